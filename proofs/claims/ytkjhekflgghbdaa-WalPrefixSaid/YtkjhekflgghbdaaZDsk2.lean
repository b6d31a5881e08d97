/-
  A disk: Sync, Cut, Remove. No condition.
  A disk: Append. No condition.
  A disk: Crash. No condition.
  A disk: Read, Files, Arm, Down. No condition.
  Sums of bytes, numbers as bytes. No condition.
  Clones and joins of bytes, frames put and cut. No condition.
  Lists of bytes; all frames of some bytes. No condition.
  Rows of pointers. No condition.
  A log in memory: its last file, its next number, First, Files, Records, Sync. No condition.
  A log in memory: its records, what is dropped. No condition.
  A log in memory: what is dropped from the front. No condition.
  A log in memory: Append, and where a file begins. No condition.
  A log in memory: Append. No condition.
  slices.Concat at int. No condition.
-/
import Derived.Test.YtkjhekflgghbdaaZCatB
import Derived.Test.YtkjhekflgghbdaaZEngSimp
import Derived.Test.YtkjhekflgghbdaaM
import Derived.Test.YtkjhekflgghbdaaFacts
set_option maxRecDepth 100000
namespace Go.Proofs.Ytkjhekflgghbdaa
open Go.Eng Go.Proofs.Ytkjhekflgghbdaa.Sint

def Dk.setF (D : Dk) (k : Int) (fa lo : List Int) : Dk := { D with fs := D.fs.map fun f => if f.n = k then ⟨k, fa, lo⟩ else f }
def Dk.rem (D : Dk) (k : Int) : Dk := { D with fs := D.fs.filter fun f => decide (f.n ≠ k) }
section
variable {w0 w : World} {hb r : Nat} {m : MP} {es a b : List FE} {D : Dk} {R : List Asn} {e e' : FE}
theorem DkOk.apart (h : DkOk m (a ++ e :: b) D) : ∀ x, x ∈ a ∨ x ∈ b → x.n ≠ e.n := by
  have hn := h.tn
  rw [List.map_append, List.map_cons, List.nodup_append, List.nodup_cons] at hn
  rintro x (hx | hx) he
  · exact hn.2.2 x.n (List.mem_map_of_mem hx) e.n (List.mem_cons_self ..) he
  · exact hn.2.1.1 (he ▸ List.mem_map_of_mem hx)
theorem setF_fs (h : DkOk m (a ++ e :: b) D) (fa lo : List Int) : (D.setF e.n fa lo).fs = a.map FE.abs ++ ⟨e.n, fa, lo⟩ :: b.map FE.abs := by
  unfold Dk.setF
  simp only [h.fs, List.map_append, List.map_cons, List.map_map]
  have hx : ∀ x : FE, x ∈ a ∨ x ∈ b → ((fun f : Fil => if f.n = e.n then (⟨e.n, fa, lo⟩ : Fil) else f) ∘ FE.abs) x = x.abs := fun x hx => by
    show (if x.n = e.n then _ else x.abs) = _
    rw [if_neg (h.apart x hx)]
  rw [List.map_congr_left fun x hxa => hx x (.inl hxa), List.map_congr_left (l := b) fun x hxb => hx x (.inr hxb)]
  simp [FE.abs]
theorem setF_used (h : DkOk m (a ++ e :: b) D) (fa lo : List Int) : (D.setF e.n fa lo).used + (e.fast.length + e.loose.length) = D.used + (fa.length + lo.length) := by
  unfold Dk.used
  rw [setF_fs h, h.fs]
  simp [FE.abs, Fil.len]
  omega
theorem DkOk.setF (h : DkOk m (a ++ e :: b) D) (hn : e'.n = e.n) (hp : e'.p = e.p) (hu : ((D.setF e.n e'.fast e'.loose).used : Int) ≤ D.room) : DkOk m (a ++ e' :: b) (D.setF e.n e'.fast e'.loose) where
  fs := by rw [setF_fs h, ← hn]; simp [FE.abs]
  ml := by rw [h.ml]; simp
  mg x hx := by
    rcases List.mem_append.1 hx with hx | hx
    · exact h.mg x (by simp [hx])
    · rcases List.mem_cons.1 hx with rfl | hx
      · rw [hn, h.mg e (by simp)]; simp [FE.ptr, hp]
      · exact h.mg x (by simp [hx])
  mz k hk := h.mz k fun x hx => by
    rcases List.mem_append.1 hx with hx | hx
    · exact hk x (by simp [hx])
    · rcases List.mem_cons.1 hx with rfl | hx
      · rw [← hn]; exact hk e' (by simp)
      · exact hk x (by simp [hx])
  tn := by have := h.tn; simp only [List.map_append, List.map_cons] at *; rw [hn]; exact this
  kp := by have := h.kp; simp only [List.map_append, List.map_cons] at *; rw [hn]; exact this
  room := h.room
  used := hu
  rng x hx := by
    rcases List.mem_append.1 hx with hx | hx
    · exact h.rng x (by simp [hx])
    · rcases List.mem_cons.1 hx with rfl | hx
      · rw [hn]; exact h.rng e (by simp)
      · exact h.rng x (by simp [hx])
  arm := h.arm
theorem DkOk.rem (h : DkOk m (a ++ e :: b) D) : DkOk (mdel m e.n) (a ++ b) (D.rem e.n) where
  fs := by
    unfold Dk.rem
    simp only [h.fs, List.map_append, List.map_cons, List.filter_append]
    have hx : ∀ l : List FE, (∀ x ∈ l, x.n ≠ e.n) → (l.map FE.abs).filter (fun f => decide (f.n ≠ e.n)) = l.map FE.abs := fun l hl => List.filter_eq_self.2 fun f hf => by
      obtain ⟨x, hx, rfl⟩ := List.mem_map.1 hf
      exact decide_eq_true (hl x hx)
    rw [List.filter_cons, hx a fun x h' => h.apart x (.inl h'), hx b fun x h' => h.apart x (.inr h')]
    simp [FE.abs]
  ml := by
    have h1 := mkeys_mdel m e.n
    have h2 : (mkeys (mdel m e.n)).length = (mkeys m).length - 1 := by
      rw [h1, List.length_erase_of_mem]
      exact h.kp.mem_iff.2 (List.mem_map_of_mem (by simp))
    simp only [mkeys, List.length_map] at h2
    rw [h2, h.ml]
    simp
  mg x hx := by
    rw [mget_mdel_ne _ _ _ fun he => h.apart x (List.mem_append.1 hx) he.symm]
    exact h.mg x (by rcases List.mem_append.1 hx with h | h <;> simp [h])
  mz k hk := by
    by_cases hek : e.n = k
    · subst hek; exact mget_mdel_same _ _ h.nd
    · rw [mget_mdel_ne _ _ _ hek]
      refine h.mz k fun x hx => ?_
      rcases List.mem_append.1 hx with hx | hx
      · exact hk x (by simp [hx])
      · rcases List.mem_cons.1 hx with rfl | hx
        · exact hek
        · exact hk x (by simp [hx])
  tn := by
    have := h.tn
    rw [(List.Perm.map FE.n (List.perm_middle (l₁ := a) (a := e) (l₂ := b))).nodup_iff] at this
    exact (List.nodup_cons.1 this).2
  kp := by
    rw [mkeys_mdel]
    have h1 := (h.kp.trans (List.Perm.map FE.n (List.perm_middle (l₁ := a) (a := e) (l₂ := b)))).erase e.n
    rw [List.map_cons, List.erase_cons_head] at h1
    exact h1
  room := h.room
  used := by
    have h1 := h.used
    have h2 : (D.rem e.n).used ≤ D.used := by
      unfold Dk.rem Dk.used
      have : ∀ l : List Fil, ((l.filter fun f => decide (f.n ≠ e.n)).map Fil.len).sum ≤ (l.map Fil.len).sum := fun l => by
        induction l with
        | nil => simp
        | cons f l ih =>
          rw [List.filter_cons]
          split
          · rw [List.map_cons, List.map_cons, List.sum_cons, List.sum_cons]; omega
          · rw [List.map_cons, List.sum_cons]; omega
      exact this D.fs
    show ((D.rem e.n).used : Int) ≤ D.room
    omega
  rng x hx := h.rng x (by rcases List.mem_append.1 hx with h | h <;> simp [h])
  arm := h.arm

theorem nilRow (S : St w0 w R) : St w0 w (rowB (.slice none 0 0) [] :: R) := S.add (a := rowB (.slice none 0 0) []) (Fr.refl _ w) (B := fun _ => False) ⟨Ow.none, fun b hb => by simp [Value.ownBlock] at hb⟩ fun b hb => hb.elim
/-- A file's bytes, anew. -/
theorem setFile {v : Value} {l : List Int} (S : St w0 w (rowB v l :: fileA e :: R)) : St w0 ((w.setCell ⟨e.p, 0, none⟩ v).setCell ⟨e.p, 1, none⟩ (.slice none 0 0)) (fileA { e with fv := v, lv := .slice none 0 0, fast := l, loose := [] } :: R) := by
  have S1 := dkFile S.swap
  have S2 : St w0 w (blkA e.p #[e.fv, e.lv] T.disk_file :: rowB v l :: R) := (S1.swap.drop.swap.drop : St w0 w _)
  have hh := S2.blk
  have S3 := S2.turn (cs' := #[v, .slice none 0 0]) (e' := T.disk_file) (w' := (w.setCell ⟨e.p, 0, none⟩ v).setCell ⟨e.p, 1, none⟩ (.slice none 0 0)) (((Fr.refl (fun x => x = e.p) w).setCell (.inl rfl) _ _).setCell (.inl rfl) _ _) (by rw [setCell_at (setCell_at hh)]; rfl)
  exact mkFile (e := { e with fv := v, lv := .slice none 0 0, fast := l, loose := [] }) ((nilRow S3).perm ((List.Perm.swap _ _ _).trans (List.Perm.cons _ (List.Perm.swap _ _ _))))
theorem Ow.take {α : Type} {enc : α → List Value} {base : Nat} {et : TypeId} {v : Value} {l : List α} {t : TypeId} (he : ∀ x, (enc x).length = 1) (h : Ow w base et 1 enc v l) (ht : isSlB P t = true) (hz : szE P t = 1) {n : Nat} (hn : n ≤ l.length) {k : IntKind} :
    ∃ v', Ow w base et 1 enc v' (l.take n) ∧ (∀ g, v'.ownBlock = some g → v.ownBlock = some g) ∧ ∀ w1 K, slT P t v none (some (.int k (n : Int))) none w1 K = K v' w1 := by
  have h' := h
  obtain ⟨h1, h2⟩ := h
  have hlen : (l.take n).length = n := by rw [List.length_take]; omega
  have hfl : (l.take n).flatMap enc = (l.flatMap enc).take (n * 1) := by
    clear h' h1 h2 hlen
    induction l generalizing n with
    | nil => simp
    | cons x l ih =>
      cases n with
      | zero => simp
      | succ n =>
        have := ih (n := n) (by simpa using hn)
        rw [List.take_succ_cons, List.flatMap_cons, this, List.flatMap_cons, List.take_append, he]
        have hx := he x
        have e : (n + 1) * 1 - 1 = n * 1 := by omega
        rw [e, List.take_of_length_le (l := enc x) (by rw [hx]; omega)]
  rcases h2 with ⟨rfl, h0⟩ | ⟨g, cap, cur, rfl, hb0, hb, hc, hr⟩
  · have : n = 0 := by omega
    subst this
    refine ⟨.slice none 0 0, ?_, fun g hg => hg, fun w1 K => by rw [sl_gen ht (.inl ⟨rfl, rfl⟩) (.inr ⟨k, rfl⟩) (Nat.le_refl _) (Nat.le_refl _)]; simp⟩
    rw [List.take_zero]; exact Ow.none
  · refine ⟨.slice (some ⟨g, 0, none⟩) n cap, ?_, fun g hg => hg, fun w1 K => ?_⟩
    · unfold Ow
      rw [hlen, hfl]
      exact row_take h' hn
    · rw [sl_gen ht (.inl ⟨rfl, rfl⟩) (.inr ⟨k, rfl⟩) (Nat.zero_le _) (by omega)]
      simp [Addr.add]
theorem cutRow {v : Value} {l : List Int} (S : St w0 w (rowB v l :: R)) {n : Nat} (hn : n ≤ l.length) : ∃ v', (∀ w1 K, slT P T.sl_uint8 v none (some (.int .i64 (n : Int))) none w1 K = K v' w1) ∧ St w0 w (rowB v' (l.take n) :: R) := by
  obtain ⟨B, ⟨h1, h2⟩, hB, cl⟩ := S.open
  obtain ⟨v', o, g, f⟩ := Ow.take encB_len h1 (t := T.sl_uint8) (by kernel_rfl) (by kernel_rfl) hn (k := .i64)
  exact ⟨v', f, cl w [rowB v' (l.take n)] (Fr.refl _ _) (Rs.one (B := B) ⟨o, fun b hb => h2 b (g b hb)⟩ fun b hb => .inl hb)⟩

def Dk.sync (D : Dk) (k : Int) : Dk × Int := if D.down then (D, 10) else match D.get k with
  | none => (D, 11)
  | some f => (D.setF k (f.fast ++ f.loose) [], 0)
def Dk.cut (D : Dk) (k n : Int) : Dk × Int := if D.down then (D, 10) else match D.get k with
  | none => (D, 11)
  | some f => if n < 0 ∨ (f.fast.length + f.loose.length : Nat) < n then (D, 1) else (D.setF k ((f.fast ++ f.loose).take n.toNat) [], 0)
def Dk.remove (D : Dk) (k : Int) : Dk × Int := if D.down then (D, 10) else match D.get k with
  | none => (D, 11)
  | some _ => (D.rem k, 0)
theorem fcells (S : St w0 w (blkA e.p #[e.fv, e.lv] T.disk_file :: R)) : cellOf w e.p 0 = some e.fv ∧ cellOf w e.p 1 = some e.lv ∧ ∀ i, frzOf w e.p i = false := by
  have hh := S.blk
  exact ⟨by rw [cellOf_of hh]; rfl, by rw [cellOf_of hh]; rfl, frzOf_of hh⟩
theorem sync_st (S : St w0 w (diskA hb D :: R)) (k : Int) {K : KV} (h : ∀ w', St w0 w' (diskA hb (D.sync k).1 :: R) → K (.int .i64 (D.sync k).2) w') : fcallT P F.pdisk_Disk_Sync [.pointer (some ⟨hb, 0, none⟩), .int .i64 k] w K := by
  obtain ⟨r, m, es, hk, S'⟩ := unDk S
  rw [M.pdisk_Disk_Sync.fcall]
  apply M.pdisk_Disk_Sync.calls
  unfold M.pdisk_Disk_Sync
  unfold Dk.sync at h
  refine find_ok hk S' k (fun hd => ?_) (fun hd hn => ?_) fun hd a e b he hek => ?_
  · simp [hd] at h ⊢
    exact h w S
  · rw [hk.get_none hn] at h
    simp [hd] at h ⊢
    exact h w S
  · subst he
    have hl := len_le_used hk
    have hu := hk.used
    have hr := hk.room
    rw [← hek, hk.get_some] at h
    simp [hd, FE.abs] at h ⊢
    refine all_ok (S'.perm (disk_perm hb r m a b e D R)) (by omega) fun w' v S2 => ?_
    have S3 := setFile S2
    obtain ⟨x1, x2, hv, _⟩ := S2.row encB_len
    generalize (e.fast ++ e.loose).length = L at hv
    subst hv
    obtain ⟨c0, c1, fz⟩ := fcells (dkFile S2.swap)
    simp [FE.ptr, c0, c1, fz, cellOf_setCell, frzOf_setCell]
    refine h _ (mkDk (m := m) (r := r) (es := a ++ { e with fv := .slice x1 L x2, lv := .slice none 0 0, fast := e.fast ++ e.loose, loose := [] } :: b) (hk.setF (e' := { e with fv := .slice x1 L x2, lv := .slice none 0 0, fast := e.fast ++ e.loose, loose := [] }) rfl rfl ?_) (S3.perm (disk_perm hb r m a b _ _ R).symm))
    have := setF_used hk (e.fast ++ e.loose) []
    simp at this ⊢
    omega
theorem cut_st (S : St w0 w (diskA hb D :: R)) (k n : Int) {K : KV} (h : ∀ w', St w0 w' (diskA hb (D.cut k n).1 :: R) → K (.int .i64 (D.cut k n).2) w') : fcallT P F.pdisk_Disk_Cut [.pointer (some ⟨hb, 0, none⟩), .int .i64 k, .int .i64 n] w K := by
  obtain ⟨r, m, es, hk, S'⟩ := unDk S
  rw [M.pdisk_Disk_Cut.fcall]
  apply M.pdisk_Disk_Cut.calls
  unfold M.pdisk_Disk_Cut
  unfold Dk.cut at h
  refine find_ok hk S' k (fun hd => ?_) (fun hd hn => ?_) fun hd a e b he hek => ?_
  · simp [hd] at h ⊢
    exact h w S
  · rw [hk.get_none hn] at h
    simp [hd] at h ⊢
    exact h w S
  · subst he
    have hl := len_le_used hk
    have hu := hk.used
    have hr := hk.room
    rw [← hek, hk.get_some] at h
    simp [hd, FE.abs] at h ⊢
    unfold M.pdisk_Disk_Cut.j0
    refine all_ok (S'.perm (disk_perm hb r m a b e D R)) (by omega) fun w' v S2 => ?_
    have hlen := fun K => (S2.row encB_len).len_ok (P := P) (t := T.sl_uint8) (ty := T.int) (w := w') (by kernel_rfl) [false] (K := K)
    have hback : St w0 w' (diskA hb D :: R) := mkDk hk (S2.drop.perm (disk_perm hb r m a b e D R).symm)
    by_cases h0 : n < 0
    · simp [h0] at h ⊢
      exact h w' hback
    · by_cases h1 : ((e.fast.length : Int) + e.loose.length) < n
      · simp [h0, h1, hlen] at h ⊢
        exact h w' hback
      · simp [h0, h1, hlen] at h ⊢
        unfold M.pdisk_Disk_Cut.j1
        obtain ⟨v', hs, S3⟩ := cutRow (n := n.toNat) S2 (by simp; omega)
        have hn : ((n.toNat : Nat) : Int) = n := by omega
        rw [hn] at hs
        rw [hs]
        have S4 := setFile S3
        obtain ⟨x1, x2, hv, _⟩ := S3.row encB_len
        generalize (List.take n.toNat (e.fast ++ e.loose)).length = L at hv
        subst hv
        obtain ⟨c0, c1, fz⟩ := fcells (dkFile S3.swap)
        simp [FE.ptr, c0, c1, fz, cellOf_setCell, frzOf_setCell]
        refine h _ (mkDk (m := m) (r := r) (es := a ++ { e with fv := .slice x1 L x2, lv := .slice none 0 0, fast := (e.fast ++ e.loose).take n.toNat, loose := [] } :: b) ?_ (S4.perm (disk_perm hb r m a b _ _ R).symm))
        have := setF_used hk ((e.fast ++ e.loose).take n.toNat) []
        simp [List.take_append] at this ⊢
        have hh := hk.setF (e' := { e with fv := .slice x1 L x2, lv := .slice none 0 0, fast := (e.fast ++ e.loose).take n.toNat, loose := [] }) rfl rfl (by
          simp [List.take_append]
          omega)
        simpa [List.take_append] using hh
theorem remove_st (S : St w0 w (diskA hb D :: R)) (k : Int) {K : KV} (h : ∀ w', St w0 w' (diskA hb (D.remove k).1 :: R) → K (.int .i64 (D.remove k).2) w') : fcallT P F.pdisk_Disk_Remove [.pointer (some ⟨hb, 0, none⟩), .int .i64 k] w K := by
  obtain ⟨r, m, es, hk, S'⟩ := unDk S
  rw [M.pdisk_Disk_Remove.fcall]
  apply M.pdisk_Disk_Remove.calls
  unfold M.pdisk_Disk_Remove
  unfold Dk.remove at h
  refine find_ok hk S' k (fun hd => ?_) (fun hd hn => ?_) fun hd a e b he hek => ?_
  · simp [hd] at h ⊢
    exact h w S
  · rw [hk.get_none hn] at h
    simp [hd] at h ⊢
    exact h w S
  · subst he
    rw [← hek, hk.get_some] at h
    obtain ⟨_, c1, _⟩ := head_cells (dkHead S')
    simp [hd, c1] at h ⊢
    refine del_ok mt.map_int_p_disk_file (dkMap S').1 k _ _ _ fun o hm => ?_
    refine h _ (mkDk (m := mdel m e.n) (r := r) (es := a ++ b) hk.rem ?_)
    have S2 : St w0 w (mapA r .i64 m :: headA hb r (D.rem e.n) :: ((a ++ b).map fileA ++ R)) := ((S'.perm (disk_perm hb r m a b e D R)).drop : St w0 w (headA hb r D :: mapA r .i64 m :: ((a ++ b).map fileA ++ R))).swap
    obtain ⟨B, ⟨h1, h2⟩, hB, cl⟩ := S2.open
    refine (cl (World.setObj w r o) [mapA r .i64 (mdel m e.n)] ((Fr.refl B w).setObj (.inl h2) o) (Rs.one (B := B) ⟨⟨?_, ?_⟩, h2⟩ fun b hb => .inl hb)).swap
    · rw [hek]; exact hm
    · rw [mkeys_mdel]; exact h1.2.erase _
end
end Go.Proofs.Ytkjhekflgghbdaa
set_option maxRecDepth 100000
namespace Go.Proofs.Ytkjhekflgghbdaa
open Go.Eng Go.Proofs.Ytkjhekflgghbdaa.Sint

def Dk.addF (D : Dk) (k : Int) : Dk := { D with fs := D.fs ++ [⟨k, [], []⟩] }
/-- What the file takes. -/
def Dk.takes (D : Dk) (l : List Int) : List Int := if D.armed then l.take (min (l.length : Int) D.left).toNat else l
def Dk.after (D : Dk) (l : List Int) : Dk := if D.armed then { D with down := decide (D.left < l.length), left := D.left - (min (l.length : Int) D.left).toNat } else D
def Dk.put (D : Dk) (k : Int) (l : List Int) : Dk := match D.get k with
  | none => ((D.addF k).setF k [] (D.takes l)).after l
  | some f => (D.setF k f.fast (f.loose ++ D.takes l)).after l
def Dk.append (D : Dk) (k : Int) (l : List Int) : Dk × Int :=
  if D.down then (D, 10) else if k < 0 ∨ 64 ≤ k then (D, 1) else if D.room < D.used + l.length then (D, 9) else (D.put k l, if (D.put k l).down then 10 else 0)
section
variable {w0 w : World} {hb r : Nat} {m : MP} {es a b : List FE} {D : Dk} {R : List Asn} {e e' : FE}
/-- A row takes more. -/
theorem moreRow {v v2 : Value} {l l2 : List Int} (S : St w0 w (rowB v l :: R)) (hs : SlB w v2 l2) (hl : l.length + l2.length ≤ 1000000000) {cs : List Bool} {ty : TypeId} {K : KV} (h : ∀ w' v', St w0 w' (rowB v' (l ++ l2) :: R) → K v' w') :
    biT P .append #[T.sl_uint8, T.sl_uint8] ty cs [v, v2] w K := by
  obtain ⟨B, ⟨h1, h2⟩, hB, cl⟩ := S.open
  refine app_sl et.sl_uint8 encB_len encB_one h1 hs hl (by decide) (Nat.zero_le _) cs fun v' w' o f g => ?_
  refine h w' v' (cl w' [rowB v' (l ++ l2)] (f.mono fun x _ hx => h2 x hx) (Rs.one (B := fun x => v'.ownBlock = some x) ⟨o, fun b hb => hb⟩ fun x hx => ?_))
  rcases g with g | ⟨y, g1, g2⟩
  · exact .inl (h2 x (by rw [← g]; exact hx))
  · rw [hx] at g1; cases g1
    exact .inr ⟨g2, (o.lt hx).2⟩
theorem state_st (S : St w0 w (diskA hb D :: R)) {K : KV} (h : K (.int .i64 (if D.down then 10 else 0)) w) : fcallT P F.pdisk_Disk_state [.pointer (some ⟨hb, 0, none⟩)] w K := by
  obtain ⟨r, m, es, hk, S'⟩ := unDk S
  exact state_ok (dkHead S') h
theorem used_st (S : St w0 w (diskA hb D :: R)) {K : KV} (h : ∀ w', St w0 w' (diskA hb D :: R) → K (.int .i64 (D.used : Nat)) w') : fcallT P F.pdisk_Disk_Used [.pointer (some ⟨hb, 0, none⟩)] w K := by
  obtain ⟨r, m, es, hk, S'⟩ := unDk S
  exact used_ok hk S' fun w' S2 => h w' (mkDk hk S2)
theorem setF_addF_get (h : DkOk m es D) {k : Int} (hk : ∀ e ∈ es, e.n ≠ k) : (D.addF k).get k = some ⟨k, [], []⟩ := by
  have := h.get_none hk
  unfold Dk.get at this ⊢
  unfold Dk.addF
  rw [List.find?_append, this]
  simp
/-- The bytes go to a file that is there. -/
theorem appJ2 (hk : DkOk m (a ++ e :: b) D) (S : St w0 w (diskL hb r m (a ++ e :: b) D ++ R)) {v2 : Value} {l2 : List Int} (hs : SlB w v2 l2) (hu : ((D.used + l2.length : Nat) : Int) ≤ D.room) {K : KV}
    (h : ∀ w', St w0 w' (diskA hb (D.setF e.n e.fast (e.loose ++ l2)) :: R) → K (.int .i64 (if D.down then 10 else 0)) w') : M.pdisk_Disk_Append.j2 [e.ptr] [v2] (.pointer (some ⟨hb, 0, none⟩)) w K := by
  unfold M.pdisk_Disk_Append.j2
  have hl := len_le_used hk
  have hr := hk.room
  have S1 := dkFile (S.perm (disk_perm hb r m a b e D R))
  obtain ⟨c0, c1, fz⟩ := fcells S1
  obtain ⟨x1, x2, hv, _⟩ := S1.third.row encB_len
  have c1' := c1
  rw [hv] at c1'
  simp [FE.ptr, c1']
  rw [← hv]
  refine moreRow S1.third hs (by omega) fun w1 v' S2 => ?_
  have S3 := S2.third.tail (List.Perm.refl _)
  have S4 : St w0 w1 (blkA e.p #[e.fv, e.lv] T.disk_file :: rowB v' (e.loose ++ l2) :: rowB e.fv e.fast :: (diskL hb r m (a ++ b) D ++ R)) := S2.swap
  obtain ⟨d0, d1, fz1⟩ := fcells S4
  have hcell : ∃ x y z, v' = .slice x y z := by
    obtain ⟨x, z, hv, _⟩ := S2.row encB_len
    exact ⟨x, _, z, hv⟩
  obtain ⟨y1, y2, y3, rfl⟩ := hcell
  have hh := S4.blk
  have S5 := S4.turn (cs' := #[e.fv, .slice y1 y2 y3]) (e' := T.disk_file) (w' := w1.setCell ⟨e.p, 1, none⟩ (.slice y1 y2 y3)) ((Fr.refl (fun x => x = e.p) w1).setCell (.inl rfl) _ _) (by rw [setCell_at hh]; rfl)
  simp [d1, fz1]
  have S6 := mkFile (e := { e with lv := .slice y1 y2 y3, loose := e.loose ++ l2 }) (S5.tail (.swap _ _ _))
  have hk' := hk.setF (e' := { e with lv := .slice y1 y2 y3, loose := e.loose ++ l2 }) rfl rfl (by
    have := setF_used hk e.fast (e.loose ++ l2)
    simp at this ⊢
    omega)
  have S7 : St w0 (w1.setCell ⟨e.p, 1, none⟩ (.slice y1 y2 y3)) (diskA hb (D.setF e.n e.fast (e.loose ++ l2)) :: R) := mkDk (m := m) (r := r) (es := a ++ { e with lv := .slice y1 y2 y3, loose := e.loose ++ l2 } :: b) hk' (S6.perm (disk_perm hb r m a b _ _ R).symm)
  exact state_st S7 (h _ S7)
theorem appJ1 (hk : DkOk m (a ++ e :: b) D) (S : St w0 w (diskL hb r m (a ++ e :: b) D ++ R)) (hd : D.down = false) {bv : Value} {l : List Int} (hbs : ∀ w' L, St w0 w' (L ++ R) → SlB w' bv l) (hu : ((D.used + l.length : Nat) : Int) ≤ D.room) {K : KV}
    (h : ∀ w', St w0 w' (diskA hb ((D.setF e.n e.fast (e.loose ++ D.takes l)).after l) :: R) → K (.int .i64 (if ((D.setF e.n e.fast (e.loose ++ D.takes l)).after l).down then 10 else 0)) w') : M.pdisk_Disk_Append.j1 (.pointer (some ⟨hb, 0, none⟩)) bv [e.ptr] w K := by
  unfold M.pdisk_Disk_Append.j1
  have hh := dkHead S
  have hr := hk.room
  obtain ⟨_, _, c2, c3, c4, fz⟩ := head_cells hh
  have hs := hbs w _ S
  have hlen := fun w' K => hs.len_ok (P := P) (w := w') (t := T.sl_uint8) (ty := T.int) (by kernel_rfl) [false] (K := K)
  rw [joinT_eq]
  cases ha : D.armed with
  | false =>
    rw [ha] at c3
    simp [c3]
    have e1 : D.takes l = l := by unfold Dk.takes; rw [ha]; rfl
    have e2 : (D.setF e.n e.fast (e.loose ++ l)).after l = D.setF e.n e.fast (e.loose ++ l) := by
      unfold Dk.after
      rw [show (D.setF e.n e.fast (e.loose ++ l)).armed = D.armed from rfl, ha]; rfl
    rw [e1, e2] at h
    exact appJ2 hk S hs hu h
  | true =>
    rw [ha] at c3
    obtain ⟨hle, hlt⟩ := hk.arm ha
    have S2 : St w0 ((w.setCell ⟨hb, 4, none⟩ (.bool (decide (D.left < l.length)))).setCell ⟨hb, 2, none⟩ (.int .i64 (D.left - min (l.length : Int) D.left))) (diskL hb r m (a ++ e :: b) { D with down := decide (D.left < l.length), left := D.left - min (l.length : Int) D.left } ++ R) :=
      St.turn (cs' := #[.int .i64 D.room, .map (some r), .int .i64 (D.left - min (l.length : Int) D.left), .bool D.armed, .bool (decide (D.left < l.length))]) (e' := T.disk_Disk) S (((Fr.refl (fun x => x = hb) w).setCell (.inl rfl) _ _).setCell (.inl rfl) _ _) (by rw [setCell_at (setCell_at hh)]; rfl)
    obtain ⟨v', s', hsub, hsl⟩ := (hbs _ _ S2).sub (P := P) (t := T.sl_uint8) (lo := none) (hi := some (.int .i64 ((min (l.length : Int) D.left).toNat : Nat))) (i := 0) (j := (min (l.length : Int) D.left).toNat) (by kernel_rfl) (by kernel_rfl) (.inl ⟨rfl, rfl⟩) (.inr ⟨_, rfl⟩) (Nat.zero_le _) (by omega)
    rw [List.drop_zero, Nat.sub_zero] at s'
    have hmin : (((min (l.length : Int) D.left).toNat : Nat) : Int) = min (l.length : Int) D.left := by omega
    have hmlen : (l.take (min (l.length : Int) D.left).toNat).length = (min (l.length : Int) D.left).toNat := by rw [List.length_take]; omega
    rw [hmin] at hsl
    have hlen' := fun w' K => s'.len_ok (P := P) (w := w') (t := T.sl_uint8) (ty := T.int) (by kernel_rfl) [false] (K := K)
    rw [hmlen] at hlen'
    have hwr : IntKind.i64.wrap (D.left - min (l.length : Int) D.left) = D.left - min (l.length : Int) D.left := wrap_id (by omega) (by omega)
    simp only [nil_some]
    simp [c2, c3, c4, fz, hlen, min_ints, cellOf_setCell, frzOf_setCell, hsl, hlen', hmin, hwr]
    have e1 : D.takes l = l.take (min (l.length : Int) D.left).toNat := by unfold Dk.takes; rw [ha]; rfl
    have e2 : (D.setF e.n e.fast (e.loose ++ D.takes l)).after l = Dk.setF { D with down := decide (D.left < l.length), left := D.left - min (l.length : Int) D.left } e.n e.fast (e.loose ++ l.take (min (l.length : Int) D.left).toNat) := by
      unfold Dk.after
      rw [show (D.setF e.n e.fast (e.loose ++ D.takes l)).armed = D.armed from rfl, ha, e1]
      show Dk.mk _ _ _ _ _ = Dk.mk _ _ _ _ _
      congr 1
      show D.left - _ = _
      rw [← hmin]; rfl
    rw [e2] at h
    refine appJ2 (D := { D with down := decide (D.left < l.length), left := D.left - min (l.length : Int) D.left }) { hk with arm := fun _ => ⟨?_, ?_⟩ } S2 s' ?_ h
    · show 0 ≤ D.left - min (l.length : Int) D.left; omega
    · show D.left - min (l.length : Int) D.left < _; omega
    · show ((D.used + _ : Nat) : Int) ≤ D.room
      rw [hmlen]; omega
theorem newFile (hk : DkOk m es D) (S : St w0 w (diskL hb r m es D ++ R)) {k : Int} (hall : ∀ e ∈ es, e.n ≠ k) (hr : 0 ≤ k ∧ k < 64) :
    DkOk (mset m k (FE.ptr ⟨k, w.heap.size, .slice none 0 0, .slice none 0 0, [], []⟩)) (es ++ ⟨k, w.heap.size, .slice none 0 0, .slice none 0 0, [], []⟩ :: []) (D.addF k) ∧
    St w0 (w.alloc (.cells #[.slice none 0 0, .slice none 0 0] T.disk_file)) (fileA ⟨k, w.heap.size, .slice none 0 0, .slice none 0 0, [], []⟩ :: (diskL hb r m es D ++ R)) := by
  have hkn : k ∉ mkeys m := fun h => by
    obtain ⟨e, he, h'⟩ := List.mem_map.1 (hk.kp.mem_iff.1 h)
    exact hall e he h'
  have hmk : mkeys (mset m k (FE.ptr ⟨k, w.heap.size, .slice none 0 0, .slice none 0 0, [], []⟩)) = mkeys m ++ [k] := by rw [mkeys_mset, if_neg hkn]
  have hml : (mset m k (FE.ptr ⟨k, w.heap.size, .slice none 0 0, .slice none 0 0, [], []⟩)).length = m.length + 1 := by
    have := congrArg List.length hmk
    simpa [mkeys] using this
  refine ⟨⟨?_, ?_, ?_, ?_, ?_, ?_, hk.room, ?_, ?_, hk.arm⟩, ?_⟩
  · show D.fs ++ _ = _
    rw [hk.fs]; simp [FE.abs]
  · rw [hml, hk.ml]; simp
  · intro x hx
    rw [mget_mset]
    rcases List.mem_append.1 hx with hx | hx
    · rw [if_neg fun h => hall x hx h.symm]; exact hk.mg x hx
    · rw [List.mem_singleton] at hx
      subst hx
      rw [if_pos rfl]
  · intro j hj
    rw [mget_mset, if_neg (c := k = j) fun h => hj ⟨k, w.heap.size, .slice none 0 0, .slice none 0 0, [], []⟩ (by simp) h]
    exact hk.mz j fun e he => hj e (by simp [he])
  · rw [List.map_append, List.nodup_append]
    refine ⟨hk.tn, by simp, ?_⟩
    rintro x hx y hy rfl
    obtain ⟨e, he, rfl⟩ := List.mem_map.1 hx
    simp at hy
    exact hall e he hy
  · rw [hmk, List.map_append]
    exact hk.kp.append_right _
  · have : (D.addF k).used = D.used := by unfold Dk.addF Dk.used; simp [Fil.len]
    rw [this]; exact hk.used
  · intro x hx
    rcases List.mem_append.1 hx with hx | hx
    · exact hk.rng x hx
    · rw [List.mem_singleton] at hx
      subst hx
      exact hr
  · have S1 : St w0 (w.alloc (.cells #[.slice none 0 0, .slice none 0 0] T.disk_file)) (blkA w.heap.size #[.slice none 0 0, .slice none 0 0] T.disk_file :: (diskL hb r m es D ++ R)) :=
      S.add ((Fr.refl _ w).alloc _) (B := fun x => x = w.heap.size) ⟨by rw [alloc_heap, if_pos rfl], rfl⟩ fun x hx => by subst hx; rw [alloc_size]; omega
    exact mkFile (e := ⟨k, w.heap.size, .slice none 0 0, .slice none 0 0, [], []⟩) ((nilRow (nilRow S1)).third)
theorem append_st (S : St w0 w (diskA hb D :: R)) (k : Int) {bv : Value} {l : List Int} (hbs : ∀ w' L, St w0 w' (L ++ R) → SlB w' bv l) (hl : l.length ≤ 1000000000) {K : KV}
    (h : ∀ w', St w0 w' (diskA hb (D.append k l).1 :: R) → K (.int .i64 (D.append k l).2) w') : fcallT P F.pdisk_Disk_Append [.pointer (some ⟨hb, 0, none⟩), .int .i64 k, bv] w K := by
  rw [M.pdisk_Disk_Append.fcall]
  apply M.pdisk_Disk_Append.calls
  unfold M.pdisk_Disk_Append
  unfold Dk.append at h
  refine state_st S ?_
  cases hd : D.down with
  | true => simp [hd] at h ⊢; exact h w S
  | false =>
  by_cases h0 : k < 0
  · simp [hd, h0] at h ⊢; exact h w S
  by_cases h1 : 64 ≤ k
  · simp [hd, h0, h1] at h ⊢; exact h w S
  have hlen := fun w' K L (S' : St w0 w' (L ++ R)) => (hbs w' L S').len_ok (P := P) (w := w') (t := T.sl_uint8) (ty := T.int) (by kernel_rfl) [false] (K := K)
  obtain ⟨r, m, es, hk, S'⟩ := unDk S
  obtain ⟨a1, k1, hbv, _⟩ := hbs w _ S'
  have hh := dkHead S'
  obtain ⟨c0, _⟩ := head_cells hh
  have hlen1 := fun w' K => (hbs w _ S').len_ok (P := P) (w := w') (t := T.sl_uint8) (ty := T.int) (by kernel_rfl) [false] (K := K)
  have hr := hk.room
  have hu0 := hk.used
  simp [hd, h0, h1, c0, hlen1]
  refine used_ok hk (S'.step ((Fr.refl _ w).dr 1)) fun w1 S1 => ?_
  obtain ⟨c0, c1, _⟩ := head_cells (dkHead S1)
  have hw : IntKind.i64.wrap ((D.used : Int) + l.length) = (D.used : Int) + l.length := wrap_id (by omega) (by omega)
  simp [c0, hw]
  by_cases h2 : D.room < D.used + l.length
  · simp [h2]
    simp [hd, h0, h1, h2] at h
    exact h w1 (mkDk hk S1)
  simp [h2]
  simp [hd, h0, h1, h2] at h
  unfold M.pdisk_Disk_Append.j0
  simp [c1]
  rw [lu_eq mt.map_int_p_disk_file (dkMap S1).1]
  unfold Dk.put at h
  rcases hk.find k with ⟨hn, hall⟩ | ⟨a, e, b, he, hek, hg⟩
  · rw [hk.get_none hall] at h
    rw [hn]
    have c1' : ∀ o, cellOf (w1.alloc o) hb 1 = some (.map (some r)) := fun o => by
      have hlt := (Array.getElem?_eq_some_iff.1 (dkHead S1)).1; exact (cellOf_heap (w := w1) (w' := w1.alloc o) (b := hb) (by rw [alloc_heap, if_neg (by omega)]) 1).trans c1
    simp [c1']
    obtain ⟨hk2, S2⟩ := newFile hk S1 hall (by omega)
    have S3 := S2
    refine mu_ok mt.map_int_p_disk_file (w := w1.alloc (.cells #[.slice none 0 0, .slice none 0 0] T.disk_file)) (r := r) (m := m) ?_ k _ _ fun o hm => ?_
    · exact (dkMap S2.drop).1
    obtain ⟨B, ⟨h1, h2⟩, hB, cl⟩ := S2.third.open
    have S4 := cl (World.setObj (w1.alloc (.cells #[.slice none 0 0, .slice none 0 0] T.disk_file)) r o) [mapA r .i64 (mset m k (FE.ptr ⟨k, w1.heap.size, .slice none 0 0, .slice none 0 0, [], []⟩))] ((Fr.refl B _).setObj (.inl h2) o) (Rs.one (B := B) ⟨⟨hm, hk2.nd⟩, h2⟩ fun b hb => .inl hb)
    have S5 : St w0 (World.setObj (w1.alloc (.cells #[.slice none 0 0, .slice none 0 0] T.disk_file)) r o) (diskL hb r (mset m k (FE.ptr ⟨k, w1.heap.size, .slice none 0 0, .slice none 0 0, [], []⟩)) (es ++ ⟨k, w1.heap.size, .slice none 0 0, .slice none 0 0, [], []⟩ :: []) (D.addF k) ++ R) := by
      refine St.perm S4 (List.Perm.trans ?_ (disk_perm hb r _ es [] ⟨k, w1.heap.size, .slice none 0 0, .slice none 0 0, [], []⟩ (D.addF k) R).symm)
      rw [List.append_nil]
      exact (List.Perm.swap _ _ _).trans (List.Perm.cons _ (List.Perm.swap _ _ _))
    exact appJ1 (e := ⟨k, w1.heap.size, .slice none 0 0, .slice none 0 0, [], []⟩) hk2 S5 hd hbs (by
      have : (D.addF k).used = D.used := by unfold Dk.addF Dk.used; simp [Fil.len]
      rw [this]
      show _ ≤ D.room
      omega) h
  · subst he
    rw [← hek, hk.get_some] at h
    rw [hg]
    simp [FE.ptr]
    exact appJ1 hk S1 hd hbs (by omega) h
end
end Go.Proofs.Ytkjhekflgghbdaa
set_option maxRecDepth 100000
namespace Go.Proofs.Ytkjhekflgghbdaa
open Go.Eng Go.Proofs.Ytkjhekflgghbdaa.Sint

def stays (kl : List Int) (i len : Nat) : Nat := (max 0 (min (kl.getD i 0) (len : Int))).toNat
def crStep (kl : List Int) (D : Dk) (k : Int) (i : Nat) : Dk := match D.get k with
  | none => D
  | some f => D.setF k (f.fast ++ f.loose.take (stays kl i f.loose.length)) []
def crN (kl : List Int) (D : Dk) (F : List Int) : Nat → Dk
  | 0 => D
  | i + 1 => crStep kl (crN kl D F i) (F.getD i 0) i
def Dk.crash (D : Dk) (kl : List Int) : Dk := { crN kl D D.files D.files.length with armed := false, down := false }
section
variable {w0 w : World} {hb r : Nat} {m : MP} {es a b : List FE} {D : Dk} {R : List Asn} {e e' : FE}
theorem setF_keys (D : Dk) (k : Int) (fa lo : List Int) : (D.setF k fa lo).keys = D.keys := by
  unfold Dk.keys Dk.setF
  rw [List.map_map]
  refine List.map_congr_left fun f hf => ?_
  show (if f.n = k then (⟨k, fa, lo⟩ : Fil) else f).n = f.n
  split
  · rename_i h; exact h.symm
  · rfl
theorem crStep_keys (kl : List Int) (D : Dk) (k : Int) (i : Nat) : (crStep kl D k i).keys = D.keys := by
  unfold crStep
  split
  · rfl
  · exact setF_keys ..
theorem crN_keys (kl : List Int) (D : Dk) (F : List Int) : ∀ i, (crN kl D F i).keys = D.keys
  | 0 => rfl
  | i + 1 => (crStep_keys kl _ _ _).trans (crN_keys kl D F i)
theorem crJ5 (hk : DkOk m (a ++ e :: b) D) (S : St w0 w (diskL hb r m (a ++ e :: b) D ++ R)) {n : Nat} (hn : n ≤ e.loose.length) {x2 : List Value} {t17 : Value} {K4 : KL} {K : KV}
    (h : ∀ w', St w0 w' (diskA hb (D.setF e.n (e.fast ++ e.loose.take n) []) :: R) → K4 [gv x2 4, t17, e.ptr, .int .i64 (n : Int)] w') : M.pdisk_Disk_Crash.j5 e.ptr [.int .i64 (n : Int)] K4 x2 t17 w K := by
  unfold M.pdisk_Disk_Crash.j5
  have hl := len_le_used hk
  have hu := hk.used
  have hr := hk.room
  have S1 := S.perm (disk_perm hb r m a b e D R)
  have S2 := dkFile S1
  obtain ⟨c0, c1, fz⟩ := fcells S2
  have s1 : SlB w e.fv e.fast := S2.swap.row encB_len
  have s2 : SlB w e.lv e.loose := S2.third.row encB_len
  obtain ⟨v', s', hsub, hsl⟩ := s2.sub (P := P) (t := T.sl_uint8) (lo := none) (hi := some (.int .i64 (n : Int))) (i := 0) (j := n) (by kernel_rfl) (by kernel_rfl) (.inl ⟨rfl, rfl⟩) (.inr ⟨_, rfl⟩) (Nat.zero_le _) hn
  rw [List.drop_zero, Nat.sub_zero] at s'
  obtain ⟨a1, k1, hv1, _⟩ := id s1
  obtain ⟨a2, k2, hv2, _⟩ := id s2
  obtain ⟨a3, k3, hv3, _⟩ := id s'
  have c0' := c0
  have c1' := c1
  rw [hv1] at c0'
  rw [hv2] at c1' hsl
  rw [hv3] at hsl
  simp [FE.ptr, c0', c1', hsl]
  rw [← hv1]
  have hmin : (List.take n e.loose).length = min n e.loose.length := by simp
  rw [← hmin, ← hv3]
  have hbl : ((Eng.dr w 1).alloc (.cells #[e.fv, v'] T.sl_uint8)).heap[w.heap.size]? = some (.cells (([(e.fv, e.fast), (v', e.loose.take n)] : List (Value × List Int)).map (·.1)).toArray T.sl_uint8 (0, 0)) := by
    rw [alloc_heap, if_pos (by simp)]; rfl
  have f1 : Fr (fun _ => False) w ((Eng.dr w 1).alloc (.cells #[e.fv, v'] T.sl_uint8)) := ((Fr.refl _ w).dr 1).alloc _
  rw [M.slices_Concat_byte_byte.fcall]
  refine CB.concat_ok (L := [(e.fv, e.fast), (v', e.loose.take n)]) hbl (fun p hp => ?_) (by simp [CB.tot]; omega) (by simp) fun w' v o f2 => ?_
  · simp at hp
    rcases hp with rfl | rfl
    · exact s1.fr f1 fun _ _ _ h => h
    · exact s'.fr f1 fun _ _ _ h => h
  · have hs : w.heap.size ≤ ((Eng.dr w 1).alloc (.cells #[e.fv, v'] T.sl_uint8)).heap.size := f1.size
    have S3 : St w0 w' (rowB v (e.fast ++ e.loose.take n) :: fileA e :: (diskL hb r m (a ++ b) D ++ R)) := S1.add (a := rowB v (e.fast ++ e.loose.take n)) (f1.trans f2) (B := fun b => v.ownBlock = some b) ⟨by simpa using o.mono (Nat.zero_le _), fun b hb => hb⟩ fun b hb => by
      have := o.lt hb
      exact ⟨by omega, this.2⟩
    have S4 := setFile S3
    obtain ⟨d0, d1, fz1⟩ := fcells (dkFile S3.swap)
    obtain ⟨y1, y2, hv, _⟩ := S3.row encB_len
    generalize (e.fast ++ e.loose.take n).length = L at hv
    subst hv
    simp [d0, d1, fz1, cellOf_setCell, frzOf_setCell]
    refine h _ (mkDk (m := m) (r := r) (es := a ++ { e with fv := .slice y1 L y2, lv := .slice none 0 0, fast := e.fast ++ e.loose.take n, loose := [] } :: b) (hk.setF (e' := { e with fv := .slice y1 L y2, lv := .slice none 0 0, fast := e.fast ++ e.loose.take n, loose := [] }) rfl rfl ?_) (S4.perm (disk_perm hb r m a b _ _ R).symm))
    have := setF_used hk (e.fast ++ e.loose.take n) []
    simp at this ⊢
    omega
def CrI (w0 : World) (hb : Nat) (D : Dk) (kl : List Int) (R : List Asn) (v : Value) : KL := fun x w1 => ∃ (u0 u1 u2 u3 : Value) (i : Nat), x = [u0, u1, u2, u3, .int .i64 (i : Nat)] ∧ i ≤ D.files.length ∧ St w0 w1 (rowI v D.files :: diskA hb (crN kl D D.files i) :: R)
theorem crash_st (S : St w0 w (diskA hb D :: R)) {kv : Value} {kl : List Int} (hks : ∀ w' L, St w0 w' (L ++ R) → Sl w' 1 encL kv kl) {K : KV}
    (h : ∀ w', St w0 w' (diskA hb (D.crash kl) :: R) → K (.tuple #[]) w') : fcallT P F.pdisk_Disk_Crash [.pointer (some ⟨hb, 0, none⟩), kv] w K := by
  rw [M.pdisk_Disk_Crash.fcall]
  apply M.pdisk_Disk_Crash.calls
  unfold M.pdisk_Disk_Crash
  simp
  unfold M.pdisk_Disk_Crash.j0
  rw [joinT_eq]
  obtain ⟨r0, m0, es0, hk0, S0⟩ := unDk S
  have hfl : D.files.length ≤ 64 := by
    have := hk0.few
    unfold Dk.files
    rw [(srtd_perm _).length_eq, hk0.keys, List.length_map]; exact this
  refine files_ok hk0 S0 fun w1 v S1 => ?_
  have S1' : St w0 w1 (rowI v D.files :: diskA hb D :: R) := ((mkDk hk0 (S1.perm List.perm_middle.symm)) : St w0 w1 (diskA hb D :: (rowI v D.files :: R))).swap
  have hsl : ∀ {w i}, St w0 w (rowI v D.files :: diskA hb (crN kl D D.files i) :: R) → Sl w 1 encL v D.files := fun S => S.row encL_len
  rw [(hsl (i := 0) S1').len_ok (by simp)]
  refine ⟨CrI w0 hb D kl R v, fun x _ => D.files.length - ms x 4, ⟨_, _, _, _, 0, rfl, Nat.zero_le _, S1'⟩, ?_⟩
  rintro x w2 ⟨u0, u1, u2, u3, i, rfl, hi, S2⟩
  have q : ∀ a b c d e : Value, gv [a, b, c, d, e] 4 = e := fun _ _ _ _ _ => rfl
  simp only [q, bin_lss, joinT_eq]
  by_cases hil : i < D.files.length
  · have hil' : (i : Int) < D.files.length := by omega
    simp only [hil', decide_true, Eng.cond_true]
    unfold M.pdisk_Disk_Crash.j3
    obtain ⟨bb, o, cap, hv, hbb, _, hc⟩ := (hsl S2).at hil
    have c0 := hc 0 _ rfl
    simp only [Nat.mul_one, Nat.add_zero] at c0
    have hmem : D.files[i] ∈ D.files := List.getElem_mem hil
    have hnext : crN kl D D.files (i + 1) = crStep kl (crN kl D D.files i) D.files[i] i := by
      show crStep kl _ (D.files.getD i 0) i = _
      rw [List.getD_eq_getElem?_getD, List.getElem?_eq_getElem hil]; rfl
    have hmem' : D.files[i] ∈ (crN kl D D.files i).keys := by
      rw [crN_keys]; exact (srtd_perm _).mem_iff.1 hmem
    obtain ⟨r, m, es, hk, S3⟩ := unDk S2.swap
    generalize hD : crN kl D D.files i = D1 at *
    generalize hki : D.files[i] = k at *
    rw [hk.keys] at hmem'
    obtain ⟨e, he, hek⟩ := List.mem_map.1 hmem'
    obtain ⟨a, b, hab⟩ := List.append_of_mem he
    subst hab
    obtain ⟨_, c1, _⟩ := head_cells (dkHead S3)
    have hg := hk.mg e (by simp)
    have hlu : ∀ K, luT P T.map_int_p_disk_file (.map (some r)) (.int .i64 k) false w2 K = K e.ptr w2 := fun K => by
      rw [lu_eq mt.map_int_p_disk_file (dkMap S3).1, ← hek, hg]; rfl
    obtain ⟨hbk, s1, s2⟩ := fileOf (a := a) (e := e) (b := b) S3
    have d1 : cellOf w2 e.p 1 = some e.lv := by rw [cellOf_of hbk]; rfl
    have hlenl := fun w' K => s2.len_ok (P := P) (w := w') (t := T.sl_uint8) (ty := T.int) (by kernel_rfl) [false] (K := K)
    have hks2 := hks w2 (rowI v D.files :: [diskA hb D1]) S2
    have hlenk := fun w' K => hks2.len_ok (P := P) (w := w') (t := T.sl_int) (ty := T.int) (by kernel_rfl) [false] (K := K)
    obtain ⟨a2, k2, hv2, _⟩ := id s2
    have d1' := d1
    rw [hv2] at d1' hlenl
    have hwi : IntKind.i64.wrap ((i : Int) + 1) = ((i + 1 : Nat) : Int) := by rw [wrap_id (by omega) (by omega)]; rfl
    have hst : crN kl D D.files (i + 1) = D1.setF e.n (e.fast ++ e.loose.take (stays kl i e.loose.length)) [] := by
      rw [hnext]
      unfold crStep
      rw [← hek, hk.get_some]; rfl
    have fin : ∀ w' y0 y1 y2 y3, St w0 w' (diskA hb (D1.setF e.n (e.fast ++ e.loose.take (stays kl i e.loose.length)) []) :: rowI v D.files :: R) → CrI w0 hb D kl R v [y0, y1, y2, y3, .int .i64 ((i + 1 : Nat) : Int)] w' ∧ D.files.length - ms [y0, y1, y2, y3, .int .i64 ((i + 1 : Nat) : Int)] 4 < D.files.length - ms [u0, u1, u2, u3, .int .i64 (i : Nat)] 4 := fun w' y0 y1 y2 y3 S' => ⟨⟨_, _, _, _, i + 1, rfl, by omega, by rw [hst]; exact S'.swap⟩, by simp only [ms, q]; simp; omega⟩
    rw [hv]
    by_cases hik : i < kl.length
    · have hik' : (i : Int) < kl.length := by omega
      obtain ⟨bk, ok, capk, hkv, hbk2, _, hck⟩ := hks2.at hik
      have ck := hck 0 _ rfl
      simp only [Nat.mul_one, Nat.add_zero] at ck
      have hsty : ((stays kl i e.loose.length : Nat) : Int) = max 0 (min kl[i] (e.loose.length : Int)) := by
        unfold stays
        rw [List.getD_eq_getElem?_getD, List.getElem?_eq_getElem hik]
        simp only [Option.getD_some]
        omega
      simp [q, hil, c0, c1, hlu, hlenk, hik]
      rw [hkv]
      simp [hik, ck, FE.ptr, d1', hlenl, min_ints, max_ints, ← hsty]
      have S4 := S3.step ((Fr.refl _ w2).dr 1)
      refine crJ5 (n := stays kl i e.loose.length) (R := rowI v D.files :: R) hk S4 (by omega) fun w' S' => ?_
      rw [← hv]
      have := fin w' (gv [u0, u1, u2, u3, .int .i64 (i : Nat)] 4) (.int .i64 k) e.ptr (.int .i64 (stays kl i e.loose.length : Nat)) S'
      rw [hwi]
      exact this
    · have hik' : ¬ (i : Int) < kl.length := by omega
      have hst0 : stays kl i e.loose.length = 0 := by
        unfold stays
        rw [List.getD_eq_getElem?_getD, List.getElem?_eq_none (by omega)]
        simp only [Option.getD_none]
        omega
      rw [hst0] at fin
      simp [q, hil, c0, c1, hlu, hlenk, hik]
      refine crJ5 (n := 0) (R := rowI v D.files :: R) hk S3 (by omega) fun w' S' => ?_
      rw [← hv]
      have := fin w' (gv [u0, u1, u2, u3, .int .i64 (i : Nat)] 4) (.int .i64 k) e.ptr (.int .i64 (0 : Nat)) S'
      rw [hwi]
      exact this
  · have hil' : ¬ (i : Int) < D.files.length := by omega
    simp only [hil', decide_false, Eng.cond_false]
    have hii : i = D.files.length := by omega
    subst hii
    obtain ⟨r, m, es, hk, S3⟩ := unDk S2.drop
    obtain ⟨_, _, _, c3, c4, fz⟩ := head_cells (dkHead S3)
    have hh := dkHead S3
    simp [c3, c4, fz, cellOf_setCell, frzOf_setCell]
    refine h _ (mkDk (r := r) (m := m) (es := es) (D := D.crash kl) { hk with arm := fun h => by cases h } (St.turn (cs' := #[.int .i64 (crN kl D D.files D.files.length).room, .map (some r), .int .i64 (crN kl D D.files D.files.length).left, .bool false, .bool false]) (e' := T.disk_Disk) S3 (((Fr.refl (fun x => x = hb) w2).setCell (.inl rfl) _ _).setCell (.inl rfl) _ _) ?_))
    rw [setCell_at (setCell_at hh)]; rfl
end
end Go.Proofs.Ytkjhekflgghbdaa
set_option maxRecDepth 100000
namespace Go.Proofs.Ytkjhekflgghbdaa
open Go.Eng Go.Proofs.Ytkjhekflgghbdaa.Sint

section
variable {w0 w : World} {hb : Nat} {D : Dk} {R : List Asn}
theorem read_st (S : St w0 w (diskA hb D :: R)) (k : Int) {K : KV} (h : ∀ w' v, St w0 w' (rowB v (D.read k).1 :: diskA hb D :: R) → K (.tuple #[v, .int .i64 (D.read k).2]) w') : fcallT P F.pdisk_Disk_Read [.pointer (some ⟨hb, 0, none⟩), .int .i64 k] w K := by
  obtain ⟨r, m, es, hk, S'⟩ := unDk S
  exact read_ok hk S' k fun w' v S2 => h w' v (mkDk hk (S2.perm List.perm_middle.symm) : St w0 w' (diskA hb D :: (rowB v (D.read k).1 :: R))).swap
theorem files_st (S : St w0 w (diskA hb D :: R)) {K : KV} (h : ∀ w' v, St w0 w' (rowI v D.files :: diskA hb D :: R) → K v w') : fcallT P F.pdisk_Disk_Files [.pointer (some ⟨hb, 0, none⟩)] w K := by
  obtain ⟨r, m, es, hk, S'⟩ := unDk S
  exact files_ok hk S' fun w' v S2 => h w' v (mkDk hk (S2.perm List.perm_middle.symm) : St w0 w' (diskA hb D :: (rowI v D.files :: R))).swap
theorem arm_st (S : St w0 w (diskA hb D :: R)) {n : Int} (hn : n < 9223372036854775808) {K : KV} (h : ∀ w', St w0 w' (diskA hb { D with armed := decide (0 ≤ n), left := n } :: R) → K (.tuple #[]) w') : fcallT P F.pdisk_Disk_Arm [.pointer (some ⟨hb, 0, none⟩), .int .i64 n] w K := by
  obtain ⟨r, m, es, hk, S'⟩ := unDk S
  exact arm_ok hk S' hn fun w' hk' S2 => h w' (mkDk hk' S2)
theorem down_st (S : St w0 w (diskA hb D :: R)) {K : KV} (h : K (.bool D.down) w) : fcallT P F.pdisk_Disk_Down [.pointer (some ⟨hb, 0, none⟩)] w K := by
  obtain ⟨r, m, es, hk, S'⟩ := unDk S
  exact down_ok S' h
end
theorem srtd_one (k : Int) : srtd [k] = [k] := List.perm_singleton.1 (srtd_perm [k])
end Go.Proofs.Ytkjhekflgghbdaa
set_option maxRecDepth 100000
namespace Go.Eng
section
variable {P : Program} {x : Int} {w : World} {K : KV}
theorem un_neg32 : unT P .neg (.int .u32 x) w K = K (.int .u32 (IntKind.u32.wrap (0 - x))) w := by
  simp [unT, semT, Op.unary, Op.intArith, Sem.run_pure]
theorem un_xor32 : unT P .xor (.int .u32 x) w K = K (.int .u32 (IntKind.u32.wrap (BitVec.ofInt IntKind.u32.bits IntKind.u32.max ^^^ BitVec.ofInt IntKind.u32.bits x).toNat)) w := by
  have e : (if IntKind.u32.signed = true then (-1 : Int) else IntKind.u32.max) = IntKind.u32.max := if_neg (by decide)
  unfold unT semT
  simp only [Op.unary, e, Op.intBits, Sem.run_pure]
end
end Go.Eng
namespace Go.Proofs.Ytkjhekflgghbdaa
open Go.Eng Go.Proofs.Ytkjhekflgghbdaa.Sint

def xorE (a b : Int) : Int := IntKind.u32.wrap (BitVec.ofInt IntKind.u32.bits a ^^^ BitVec.ofInt IntKind.u32.bits b).toNat
def andE (a b : Int) : Int := IntKind.u32.wrap (BitVec.ofInt IntKind.u32.bits a &&& BitVec.ofInt IntKind.u32.bits b).toNat
def orE (a b : Int) : Int := IntKind.u32.wrap (BitVec.ofInt IntKind.u32.bits a ||| BitVec.ofInt IntKind.u32.bits b).toNat
def orL (a b : Int) : Int := IntKind.u64.wrap (BitVec.ofInt IntKind.u64.bits a ||| BitVec.ofInt IntKind.u64.bits b).toNat
def notE (a : Int) : Int := xorE IntKind.u32.max a
def crcStep (r : Int) : Int := xorE (r.fdiv (2 ^ min (1 : Int).toNat IntKind.u32.bits)) (andE 3988292384 (IntKind.u32.wrap (0 - andE r 1)))
def iterN (f : Int → Int) : Nat → Int → Int
  | 0, r => r
  | n + 1, r => f (iterN f n r)
def crcFold (r : Int) (c : Int) : Int := iterN crcStep 8 (xorE r (IntKind.u32.wrap c))
def crcSum (l : List Int) : Int := notE (l.foldl crcFold (notE 0))
theorem bin_xor32 {t : TypeId} {rx ry : Operand} {x y : Int} {w : World} {K : KV} : binT P .xor t rx ry (.int .u32 x) (.int .u32 y) w K = K (.int .u32 (xorE x y)) w := bin_xor
theorem bin_and32 {t : TypeId} {rx ry : Operand} {x y : Int} {w : World} {K : KV} : binT P .and t rx ry (.int .u32 x) (.int .u32 y) w K = K (.int .u32 (andE x y)) w := bin_and
theorem bin_or32 {t : TypeId} {rx ry : Operand} {x y : Int} {w : World} {K : KV} : binT P .or t rx ry (.int .u32 x) (.int .u32 y) w K = K (.int .u32 (orE x y)) w := bin_or
theorem bin_or64 {t : TypeId} {rx ry : Operand} {x y : Int} {w : World} {K : KV} : binT P .or t rx ry (.int .u64 x) (.int .u64 y) w K = K (.int .u64 (orL x y)) w := bin_or
theorem un_not32 {x : Int} {w : World} {K : KV} : unT P .xor (.int .u32 x) w K = K (.int .u32 (notE x)) w := un_xor32
def StI (w : World) (r : Int) (n : Nat) : KL := fun x w1 => ∃ (i : Nat), x = [.int .u32 (iterN crcStep i r), .int .i64 (i : Nat)] ∧ w1 = w ∧ i ≤ n
theorem steps_ok {w : World} {r : Int} {n : Nat} (hn : n ≤ 1000000) {K : KV} (h : K (.int .u32 (iterN crcStep n r)) w) : fcallT P F.crc_steps [.int .u32 r, .int .i64 (n : Nat)] w K := by
  rw [M.crc_steps.fcall]
  apply M.crc_steps.calls
  unfold M.crc_steps
  rw [joinT_eq]
  refine ⟨StI w r n, fun x _ => n - ms x 1, ⟨0, rfl, rfl, Nat.zero_le _⟩, ?_⟩
  rintro x w1 ⟨i, rfl, rfl, hi⟩
  have q0 : gv [.int .u32 (iterN crcStep i r), .int .i64 (i : Nat)] 0 = .int .u32 (iterN crcStep i r) := rfl
  have q1 : gv [.int .u32 (iterN crcStep i r), .int .i64 (i : Nat)] 1 = .int .i64 (i : Nat) := rfl
  simp only [q0, q1, joinT_eq]
  by_cases hil : i < n
  · have hil' : (i : Int) < n := by omega
    have hwi : IntKind.i64.wrap ((i : Int) + 1) = ((i + 1 : Nat) : Int) := by rw [wrap_id (by omega) (by omega)]; rfl
    simp [hil']
    unfold M.crc_steps.j2
    simp only [q0, q1, joinT_eq]
    rw [bin_shr (by omega), bin_and32, un_neg32, bin_and32, bin_xor32, bin_add, hwi]
    exact ⟨⟨i + 1, rfl, rfl, by omega⟩, by simp [ms, gv]; omega⟩
  · have hil' : ¬ (i : Int) < n := by omega
    have he : i = n := by omega
    subst he
    simp
    exact h
def MoI (w : World) (l : List Int) (s : Int) : KL := fun x w1 => ∃ (u : Value) (i : Nat), x = [u, .int .u32 ((l.take i).foldl crcFold (notE s)), .int .i64 (i : Nat)] ∧ w1 = w ∧ i ≤ l.length
theorem sum_ok {w : World} {v : Value} {l : List Int} (hs : SlB w v l) (hl : l.length ≤ 1000000000) {K : KV} (h : K (.int .u32 (crcSum l)) w) : fcallT P F.crc_Sum [v] w K := by
  rw [M.crc_Sum.fcall]
  apply M.crc_Sum.calls
  unfold M.crc_Sum
  rw [M.crc_More.fcall]
  apply M.crc_More.calls
  unfold M.crc_More
  rw [un_not32, joinT_eq, hs.len_ok (by kernel_rfl)]
  refine ⟨MoI w l 0, fun x _ => l.length - ms x 2, ⟨_, 0, rfl, rfl, Nat.zero_le _⟩, ?_⟩
  rintro x w1 ⟨u, i, rfl, rfl, hi⟩
  generalize hf : (l.take i).foldl crcFold (notE 0) = f
  have q0 : gv [u, .int .u32 f, .int .i64 (i : Nat)] 0 = u := rfl
  have q1 : gv [u, .int .u32 f, .int .i64 (i : Nat)] 1 = .int .u32 f := rfl
  have q2 : gv [u, .int .u32 f, .int .i64 (i : Nat)] 2 = .int .i64 (i : Nat) := rfl
  simp only [q2, joinT_eq]
  by_cases hil : i < l.length
  · have hil' : (i : Int) < l.length := by omega
    have hwi : IntKind.i64.wrap ((i : Int) + 1) = ((i + 1 : Nat) : Int) := by rw [wrap_id (by omega) (by omega)]; rfl
    obtain ⟨b, o, cap, hv, _, _, hc⟩ := hs.at hil
    have c0 := hc 0 _ rfl
    simp only [Nat.mul_one, Nat.add_zero] at c0
    have htk : (l.take (i + 1)).foldl crcFold (notE 0) = crcFold f l[i] := by
      rw [List.take_succ_eq_append_getElem hil, List.foldl_append, hf]; rfl
    generalize l[i] = c at *
    simp [hil']
    unfold M.crc_More.j2
    simp only [q1, q2, joinT_eq]
    rw [hv]
    simp [hil, c0]
    rw [cv_ints (ks := .u8) (kd := .u32) (by kernel_rfl) (by kernel_rfl), bin_xor32]
    refine steps_ok (n := 8) (by omega) ?_
    rw [hwi]
    exact ⟨⟨.int .u8 c, i + 1, by rw [htk]; rfl, rfl, by omega⟩, by simp [ms, gv]; omega⟩
  · have hil' : ¬ (i : Int) < l.length := by omega
    simp [hil']
    rw [List.take_of_length_le (by omega)] at hf
    have q4 : gv [v, .int .i64 (l.length : Nat), .int .i64 (i : Nat), u, .int .u32 f] 4 = .int .u32 f := rfl
    try simp only [q0, q1, q4]
    rw [un_not32, ← hf]
    exact h
/-! ### Four bytes, eight bytes -/
def b8 (x : Int) : Int := IntKind.u8.wrap x
def s8 (x : Int) : Int := x.fdiv (2 ^ min (8 : Int).toNat IntKind.u32.bits)
def put32 (n : Int) : List Int := (List.range 4).map fun i => b8 (iterN s8 i n)
section
variable {w0 w : World} {R : List Asn} {v : Value} {l : List Int}
theorem oneB (S : St w0 w R) (x : Int) : St w0 (w.alloc (.cells #[.int .u8 x] T.uint8)) (rowB (.slice (some ⟨w.heap.size, 0, none⟩) 1 1) [x] :: R) := St.newRow (l := [x]) S encB_len rfl (by unfold maxLen; simp)
def P3I (w0 : World) (l : List Int) (n : Int) (R : List Asn) : KL := fun x w1 => ∃ (v : Value) (i : Nat), x = [v, .int .u32 (iterN s8 i n), .int .i64 (i : Nat)] ∧ i ≤ 4 ∧ St w0 w1 (rowB v (l ++ (put32 n).take i) :: R)
theorem put32_len (n : Int) : (put32 n).length = 4 := by simp [put32]
theorem put32_take (n : Int) {i : Nat} (hi : i < 4) : (put32 n).take (i + 1) = (put32 n).take i ++ [b8 (iterN s8 i n)] := by
  rw [List.take_succ_eq_append_getElem (by rw [put32_len]; exact hi)]
  simp [put32]
theorem put32_st (S : St w0 w (rowB v l :: R)) (hl : l.length ≤ 100000000) (n : Int) {K : KV} (h : ∀ w' v', St w0 w' (rowB v' (l ++ put32 n) :: R) → K v' w') : fcallT P F.num_Put32 [v, .int .u32 n] w K := by
  rw [M.num_Put32.fcall]
  apply M.num_Put32.calls
  unfold M.num_Put32
  rw [joinT_eq]
  refine ⟨P3I w0 l n R, fun x _ => 4 - ms x 2, ⟨v, 0, rfl, by omega, by simpa using S⟩, ?_⟩
  rintro x w1 ⟨v, i, rfl, hi, S⟩
  have q0 : gv [v, .int .u32 (iterN s8 i n), .int .i64 (i : Nat)] 0 = v := rfl
  have q1 : gv [v, .int .u32 (iterN s8 i n), .int .i64 (i : Nat)] 1 = .int .u32 (iterN s8 i n) := rfl
  have q2 : gv [v, .int .u32 (iterN s8 i n), .int .i64 (i : Nat)] 2 = .int .i64 (i : Nat) := rfl
  simp only [q2, joinT_eq]
  by_cases hil : i < 4
  · have hil' : (i : Int) < 4 := by omega
    have hwi : IntKind.i64.wrap ((i : Int) + 1) = ((i + 1 : Nat) : Int) := by rw [wrap_id (by omega) (by omega)]; rfl
    simp [hil']
    unfold M.num_Put32.j2
    simp only [q0, q1, q2, joinT_eq]
    rw [cv_ints (ks := .u32) (kd := .u8) (by kernel_rfl) (by kernel_rfl)]
    simp
    have S1 := oneB S (b8 (iterN s8 i n))
    refine Go.Eng.moreRow et.sl_uint8 encB_len encB_one S1.swap (l2 := [b8 (iterN s8 i n)]) (S1.row encB_len) (by simp [put32_len]; omega) (by decide) fun w2 v2 S2 => ?_
    rw [bin_shr (by omega), hwi]
    refine ⟨⟨v2, i + 1, rfl, by omega, ?_⟩, by simp [ms, gv]; omega⟩
    rw [put32_take n hil, ← List.append_assoc]
    exact S2.swap.drop
  · have hil' : ¬ (i : Int) < 4 := by omega
    have he : i = 4 := by omega
    subst he
    simp
    rw [List.take_of_length_le (by rw [put32_len]; omega)] at S
    exact h w1 v S
def shE (c : Int) (i : Nat) : Int := IntKind.u32.wrap (IntKind.u32.wrap c * 2 ^ min (8 * i) IntKind.u32.bits)
def u32N (l : List Int) : Nat → Int
  | 0 => 0
  | i + 1 => orE (u32N l i) (shE (l.getD i 0) i)
def u32F (l : List Int) : Int := u32N l 4
def U3I (w : World) (l : List Int) : KL := fun x w1 => ∃ (u0 u1 : Value) (i : Nat), x = [u0, u1, .int .u32 (u32N l i), .int .i64 (i : Nat)] ∧ w1 = w ∧ i ≤ 4
theorem u32_ok (hs : SlB w v l) (hl : 4 ≤ l.length) {K : KV} (h : K (.int .u32 (u32F l)) w) : fcallT P F.num_U32 [v] w K := by
  rw [M.num_U32.fcall]
  apply M.num_U32.calls
  unfold M.num_U32
  obtain ⟨v', s', _, hsub⟩ := hs.sub (P := P) (t := T.sl_uint8) (lo := none) (hi := some (.int .i64 (4 : Nat))) (i := 0) (j := 4) (by kernel_rfl) (by kernel_rfl) (.inl ⟨rfl, rfl⟩) (.inr ⟨_, rfl⟩) (Nat.zero_le _) hl
  have e4 : (List.take (4 - 0) (List.drop 0 l)) = l.take 4 := by simp
  rw [e4] at s'
  have hsub' : ∀ w1 K, slT P T.sl_uint8 v none (some (.int .i64 4)) none w1 K = K v' w1 := hsub
  have hl4 : (l.take 4).length = 4 := by simp; omega
  rw [joinT_eq, hsub', s'.len_ok (by kernel_rfl), hl4]
  refine ⟨U3I w l, fun x _ => 4 - ms x 3, ⟨_, _, 0, rfl, rfl, by omega⟩, ?_⟩
  rintro x w1 ⟨u0, u1, i, rfl, rfl, hi⟩
  have q2 : gv [u0, u1, .int .u32 (u32N l i), .int .i64 (i : Nat)] 2 = .int .u32 (u32N l i) := rfl
  have q3 : gv [u0, u1, .int .u32 (u32N l i), .int .i64 (i : Nat)] 3 = .int .i64 (i : Nat) := rfl
  have q0 : gv [u0, u1, .int .u32 (u32N l i), .int .i64 (i : Nat)] 0 = u0 := rfl
  have q1 : gv [u0, u1, .int .u32 (u32N l i), .int .i64 (i : Nat)] 1 = u1 := rfl
  simp only [q3, joinT_eq]
  by_cases hil : i < 4
  · have hil' : (i : Int) < ((4 : Nat) : Int) := by omega
    have hwi : IntKind.i64.wrap ((i : Int) + 1) = ((i + 1 : Nat) : Int) := by rw [wrap_id (by omega) (by omega)]; rfl
    have hw8 : IntKind.i64.wrap (8 * (i : Int)) = ((8 * i : Nat) : Int) := by rw [wrap_id (by omega) (by omega)]; omega
    have hwu : IntKind.u64.wrap (8 * (i : Int)) = 8 * (i : Int) := wrap_u64 (by omega) (by omega)
    have ht8 : (8 * (i : Int)).toNat = 8 * i := by omega
    obtain ⟨b, o, cap, hv, _, _, hc⟩ := s'.at (i := i) (by omega)
    have c0 := hc 0 _ rfl
    simp only [Nat.mul_one, Nat.add_zero] at c0
    have hgd : l.getD i 0 = (l.take 4)[i]'(by omega) := by
      rw [List.getD_eq_getElem?_getD, List.getElem?_eq_getElem (by omega), List.getElem_take]; rfl
    rw [← hgd] at c0
    rw [hl4] at hv
    have e : u32N l (i + 1) = orE (u32N l i) (shE (l.getD i 0) i) := rfl
    generalize l.getD i 0 = c at *
    rw [bin_lss, decide_eq_true hil', Eng.cond_true]
    unfold M.num_U32.j2
    simp only [q0, q1, q2, q3, joinT_eq, bin_mul, hw8]
    rw [hv]
    rw [ia_ok (by kernel_rfl) (by omega) (by omega)]
    have hz : szE P T.sl_uint8 = 1 := by kernel_rfl
    rw [hz]
    simp [c0]
    rw [cv_ints (ks := .u8) (kd := .u32) (by kernel_rfl) (by kernel_rfl), cv_ints (ks := .i64) (kd := .u64) (by kernel_rfl) (by kernel_rfl), hwu, bin_shl (by omega), ht8, bin_or32, hwi]
    exact ⟨⟨_, _, i + 1, by rw [e]; rfl, rfl, by omega⟩, by simp [ms, gv]; omega⟩
  · have hil' : ¬ (i : Int) < 4 := by omega
    have he : i = 4 := by omega
    subst he
    simp
    exact h
/-! ### Eight bytes -/
def put64 (n : Int) : List Int := (List.range 8).map fun k => b8 (n.fdiv (2 ^ min (56 - 8 * k) IntKind.u64.bits))
theorem put64_len (n : Int) : (put64 n).length = 8 := by simp [put64]
theorem put64_take (n : Int) {k : Nat} (hk : k < 8) : (put64 n).take (k + 1) = (put64 n).take k ++ [b8 (n.fdiv (2 ^ min (56 - 8 * k) IntKind.u64.bits))] := by
  rw [List.take_succ_eq_append_getElem (by rw [put64_len]; exact hk)]
  simp [put64]
def P6I (w0 : World) (l : List Int) (n : Int) (R : List Asn) : KL := fun x w1 => ∃ (v : Value) (k : Nat), x = [v, .int .i64 (56 - 8 * (k : Int))] ∧ k ≤ 8 ∧ St w0 w1 (rowB v (l ++ (put64 n).take k) :: R)
def ms64 (x : List Value) : Nat := match gv x 1 with
  | .int _ k => (k + 8).toNat
  | _ => 0
theorem put64_st (S : St w0 w (rowB v l :: R)) (hl : l.length ≤ 100000000) (n : Int) {K : KV} (h : ∀ w' v', St w0 w' (rowB v' (l ++ put64 n) :: R) → K v' w') : fcallT P F.num_Put64 [v, .int .u64 n] w K := by
  rw [M.num_Put64.fcall]
  apply M.num_Put64.calls
  unfold M.num_Put64
  rw [joinT_eq]
  refine ⟨P6I w0 l n R, fun x _ => ms64 x, ⟨v, 0, rfl, by omega, by simpa using S⟩, ?_⟩
  rintro x w1 ⟨v, k, rfl, hk, S⟩
  have q0 : gv [v, .int .i64 (56 - 8 * (k : Int))] 0 = v := rfl
  have q1 : gv [v, .int .i64 (56 - 8 * (k : Int))] 1 = .int .i64 (56 - 8 * (k : Int)) := rfl
  simp only [q1, joinT_eq]
  by_cases hil : k < 8
  · have hil' : (0 : Int) ≤ 56 - 8 * (k : Int) := by omega
    have hwu : IntKind.u64.wrap (56 - 8 * (k : Int)) = 56 - 8 * (k : Int) := wrap_u64 (by omega) (by omega)
    have hwi : IntKind.i64.wrap (56 - 8 * (k : Int) - 8) = 56 - 8 * ((k + 1 : Nat) : Int) := by rw [wrap_id (by omega) (by omega)]; omega
    have htn : (56 - 8 * (k : Int)).toNat = 56 - 8 * k := by omega
    rw [bin_geq, decide_eq_true hil']
    simp only [condT]
    unfold M.num_Put64.j2
    simp only [q0, q1, joinT_eq]
    rw [cv_ints (ks := .i64) (kd := .u64) (by kernel_rfl) (by kernel_rfl), hwu, bin_shr hil', htn, cv_ints (ks := .u64) (kd := .u8) (by kernel_rfl) (by kernel_rfl)]
    simp
    have S1 := oneB S (b8 (n.fdiv (2 ^ min (56 - 8 * k) IntKind.u64.bits)))
    refine Go.Eng.moreRow et.sl_uint8 encB_len encB_one S1.swap (l2 := [b8 (n.fdiv (2 ^ min (56 - 8 * k) IntKind.u64.bits))]) (S1.row encB_len) (by simp [put64_len]; omega) (by decide) fun w2 v2 S2 => ?_
    rw [hwi]
    refine ⟨⟨v2, k + 1, rfl, by omega, ?_⟩, by simp [ms64, gv]; omega⟩
    rw [put64_take n hil, ← List.append_assoc]
    exact S2.swap.drop
  · have hil' : ¬ (0 : Int) ≤ 56 - 8 * (k : Int) := by omega
    rw [bin_geq, decide_eq_false hil']
    simp only [condT]
    rw [List.take_of_length_le (by rw [put64_len]; omega)] at S
    exact h w1 v S
def u64N (l : List Int) : Nat → Int
  | 0 => 0
  | i + 1 => orL (IntKind.u64.wrap (u64N l i * 2 ^ min (8 : Int).toNat IntKind.u64.bits)) (IntKind.u64.wrap (l.getD i 0))
def u64F (l : List Int) : Int := u64N l 8
def U6I (w : World) (l : List Int) : KL := fun x w1 => ∃ (u0 : Value) (i : Nat), x = [u0, .int .u64 (u64N l i), .int .i64 (i : Nat)] ∧ w1 = w ∧ i ≤ 8
theorem u64_ok (hs : SlB w v l) (hl : 8 ≤ l.length) {K : KV} (h : K (.int .u64 (u64F l)) w) : fcallT P F.num_U64 [v] w K := by
  rw [M.num_U64.fcall]
  apply M.num_U64.calls
  unfold M.num_U64
  obtain ⟨v', s', _, hsub⟩ := hs.sub (P := P) (t := T.sl_uint8) (lo := none) (hi := some (.int .i64 (8 : Nat))) (i := 0) (j := 8) (by kernel_rfl) (by kernel_rfl) (.inl ⟨rfl, rfl⟩) (.inr ⟨_, rfl⟩) (Nat.zero_le _) hl
  have e4 : (List.take (8 - 0) (List.drop 0 l)) = l.take 8 := by simp
  rw [e4] at s'
  have hsub' : ∀ w1 K, slT P T.sl_uint8 v none (some (.int .i64 8)) none w1 K = K v' w1 := hsub
  have hl4 : (l.take 8).length = 8 := by simp; omega
  rw [joinT_eq, hsub', s'.len_ok (by kernel_rfl), hl4]
  refine ⟨U6I w l, fun x _ => 8 - ms x 2, ⟨_, 0, rfl, rfl, by omega⟩, ?_⟩
  rintro x w1 ⟨u0, i, rfl, rfl, hi⟩
  have q1 : gv [u0, .int .u64 (u64N l i), .int .i64 (i : Nat)] 1 = .int .u64 (u64N l i) := rfl
  have q2 : gv [u0, .int .u64 (u64N l i), .int .i64 (i : Nat)] 2 = .int .i64 (i : Nat) := rfl
  have q0 : gv [u0, .int .u64 (u64N l i), .int .i64 (i : Nat)] 0 = u0 := rfl
  simp only [q2, joinT_eq]
  by_cases hil : i < 8
  · have hil' : (i : Int) < ((8 : Nat) : Int) := by omega
    have hwi : IntKind.i64.wrap ((i : Int) + 1) = ((i + 1 : Nat) : Int) := by rw [wrap_id (by omega) (by omega)]; rfl
    obtain ⟨b, o, cap, hv, _, _, hc⟩ := s'.at (i := i) (by omega)
    have c0 := hc 0 _ rfl
    simp only [Nat.mul_one, Nat.add_zero] at c0
    have hgd : l.getD i 0 = (l.take 8)[i]'(by omega) := by
      rw [List.getD_eq_getElem?_getD, List.getElem?_eq_getElem (by omega), List.getElem_take]; rfl
    rw [← hgd] at c0
    rw [hl4] at hv
    have e : u64N l (i + 1) = orL (IntKind.u64.wrap (u64N l i * 2 ^ min (8 : Int).toNat IntKind.u64.bits)) (IntKind.u64.wrap (l.getD i 0)) := rfl
    generalize l.getD i 0 = c at *
    rw [bin_lss, decide_eq_true hil', Eng.cond_true]
    unfold M.num_U64.j2
    simp only [q0, q1, q2, joinT_eq]
    rw [hv]
    rw [ia_ok (by kernel_rfl) (by omega) (by omega)]
    have hz : szE P T.sl_uint8 = 1 := by kernel_rfl
    rw [hz]
    simp [c0]
    rw [bin_shl (by omega), cv_ints (ks := .u8) (kd := .u64) (by kernel_rfl) (by kernel_rfl), bin_or64, hwi]
    exact ⟨⟨_, i + 1, by rw [e], rfl, by omega⟩, by simp [ms, gv]; omega⟩
  · have hil' : ¬ (i : Int) < 8 := by omega
    have he : i = 8 := by omega
    subst he
    simp
    exact h
/-! ### There and back -/
theorem wrapE {n : Nat} (h : n < 4294967296) : IntKind.u32.wrap (n : Int) = n := by
  show (if (false && decide ((n : Int) % 4294967296 ≥ 2147483648)) = true then (n : Int) % 4294967296 - 4294967296 else (n : Int) % 4294967296) = n
  simp; omega
theorem ofIntE {n : Nat} (h : n < 4294967296) : (BitVec.ofInt IntKind.u32.bits (n : Int)).toNat = n := by
  show (BitVec.ofInt 32 (n : Int)).toNat = n
  rw [BitVec.toNat_ofInt]; omega
theorem orE_add {a c i : Nat} (ha : a < 2 ^ i) (hc : 2 ^ i * c + a < 4294967296) : orE (a : Int) ((2 ^ i * c : Nat) : Int) = ((2 ^ i * c + a : Nat) : Int) := by
  unfold orE
  rw [BitVec.toNat_or, ofIntE (by omega), ofIntE (by omega), Nat.or_comm, ← Nat.two_pow_add_eq_or_of_lt ha, wrapE hc]
theorem orL_add {a c : Nat} (ha : a < 256) (hc : 256 * c + a < 18446744073709551616) : orL ((256 * c : Nat) : Int) (a : Int) = ((256 * c + a : Nat) : Int) := by
  have := Nat.two_pow_add_eq_or_of_lt (i := 8) (b := a) ha c
  unfold orL
  rw [BitVec.toNat_or]
  have h1 : (BitVec.ofInt IntKind.u64.bits ((256 * c : Nat) : Int)).toNat = 256 * c := ofIntN (by omega)
  have h2 : (BitVec.ofInt IntKind.u64.bits (a : Int)).toNat = a := ofIntN (by omega)
  rw [h1, h2, ← this, wrapU hc]
theorem b8_nat {n : Nat} : b8 (n : Int) = ((n % 256 : Nat) : Int) := by
  unfold b8
  show (if (false && decide ((n : Int) % 256 ≥ 128)) = true then (n : Int) % 256 - 256 else (n : Int) % 256) = _
  simp
theorem s8_nat {n : Nat} : s8 (n : Int) = ((n / 256 : Nat) : Int) := shr_nat n 8
theorem u32_put32 {n : Nat} (hn : n < 4294967296) (r : List Int) : u32F (put32 (n : Int) ++ r) = n := by
  have e : put32 (n : Int) = [((n % 256 : Nat) : Int), ((n / 256 % 256 : Nat) : Int), ((n / 256 / 256 % 256 : Nat) : Int), ((n / 256 / 256 / 256 % 256 : Nat) : Int)] := by
    show [b8 (n : Int), b8 (s8 n), b8 (s8 (s8 n)), b8 (s8 (s8 (s8 n)))] = _
    rw [s8_nat, s8_nat, s8_nat, b8_nat, b8_nat, b8_nat, b8_nat]
  rw [e]
  generalize h0 : n % 256 = c0
  generalize h1 : n / 256 % 256 = c1
  generalize h2 : n / 256 / 256 % 256 = c2
  generalize h3 : n / 256 / 256 / 256 % 256 = c3
  have sh : ∀ (c i : Nat), c < 256 → i < 4 → 2 ^ (8 * i) * c < 4294967296 → shE (c : Int) i = ((2 ^ (8 * i) * c : Nat) : Int) := fun c i hc hi hb => by
    unfold shE
    rw [wrapE (by omega)]
    have hm : min (8 * i) IntKind.u32.bits = 8 * i := Nat.min_eq_left (by show 8 * i ≤ 32; omega)
    rw [hm]
    have : (c : Int) * 2 ^ (8 * i) = ((2 ^ (8 * i) * c : Nat) : Int) := by rw [Int.mul_comm]; simp
    rw [this, wrapE hb]
  show orE (orE (orE (orE 0 (shE (c0 : Int) 0)) (shE (c1 : Int) 1)) (shE (c2 : Int) 2)) (shE (c3 : Int) 3) = n
  rw [sh c0 0 (by omega) (by omega) (by simp; omega), sh c1 1 (by omega) (by omega) (by simp; omega), sh c2 2 (by omega) (by omega) (by simp; omega), sh c3 3 (by omega) (by omega) (by simp; omega)]
  have z0 := orE_add (a := 0) (c := c0) (i := 0) (by simp) (by simp; omega)
  have z1 := orE_add (a := c0) (c := c1) (i := 8) (by simp; omega) (by simp; omega)
  have z2 := orE_add (a := 256 * c1 + c0) (c := c2) (i := 16) (by simp; omega) (by simp; omega)
  have z3 := orE_add (a := 65536 * c2 + (256 * c1 + c0)) (c := c3) (i := 24) (by simp; omega) (by simp; omega)
  simp only [Nat.mul_zero, Nat.pow_zero, Nat.one_mul, Nat.add_zero, Nat.mul_one] at z0 z1 z2 z3 ⊢
  rw [show ((0 : Int)) = ((0 : Nat) : Int) from rfl, z0, z1]
  rw [show 2 ^ 8 * c1 + c0 = 256 * c1 + c0 from rfl, show 8 * 2 = 16 from rfl, z2, show 2 ^ 16 * c2 + (256 * c1 + c0) = 65536 * c2 + (256 * c1 + c0) from rfl, show 8 * 3 = 24 from rfl, z3]
  congr 1
  show 16777216 * c3 + (65536 * c2 + (256 * c1 + c0)) = n
  omega
theorem u64_put64 {n : Nat} (hn : n < 18446744073709551616) (r : List Int) : u64F (put64 (n : Int) ++ r) = n := by
  have hb : ∀ k, k < 8 → (put64 (n : Int) ++ r).getD k 0 = ((n / 2 ^ (56 - 8 * k) % 256 : Nat) : Int) := fun k hk => by
    rw [List.getD_eq_getElem?_getD, List.getElem?_append_left (by rw [put64_len]; exact hk)]
    unfold put64
    rw [List.getElem?_map, List.getElem?_range hk]
    show b8 ((n : Int).fdiv (2 ^ min (56 - 8 * k) IntKind.u64.bits)) = _
    have hm : min (56 - 8 * k) IntKind.u64.bits = 56 - 8 * k := Nat.min_eq_left (by show 56 - 8 * k ≤ 64; omega)
    rw [hm, shr_nat, b8_nat]
  have key : ∀ i, i ≤ 8 → u64N (put64 (n : Int) ++ r) i = ((n / 2 ^ (64 - 8 * i) : Nat) : Int) := by
    intro i
    induction i with
    | zero => intro _; show (0 : Int) = _; simp; omega
    | succ i ih =>
      intro hi
      show orL (IntKind.u64.wrap (u64N (put64 (n : Int) ++ r) i * 2 ^ 8)) (IntKind.u64.wrap ((put64 (n : Int) ++ r).getD i 0)) = _
      rw [ih (by omega), hb i (by omega)]
      have e1 : n / 2 ^ (64 - 8 * i) = n / 2 ^ (56 - 8 * i) / 256 := by
        rw [Nat.div_div_eq_div_mul]
        congr 1
        rw [show (256 : Nat) = 2 ^ 8 from rfl, ← Nat.pow_add]
        congr 1; omega
      have e2 : 64 - 8 * (i + 1) = 56 - 8 * i := by omega
      rw [e1, e2]
      have hlt : n / 2 ^ (56 - 8 * i) ≤ n := Nat.div_le_self _ _
      generalize n / 2 ^ (56 - 8 * i) = m at *
      have e3 : ((m / 256 : Nat) : Int) * 2 ^ 8 = ((256 * (m / 256) : Nat) : Int) := by rw [Int.mul_comm]; simp
      rw [e3, wrapU (by omega), wrapU (by omega), orL_add (by omega) (by omega)]
      congr 1; omega
  show u64N _ 8 = _
  rw [key 8 (by omega)]; simp
theorem wrapE_range (z : Int) : ∃ n : Nat, IntKind.u32.wrap z = (n : Int) ∧ n < 4294967296 := by
  have : IntKind.u32.wrap z = z % 4294967296 := by
    show (if (false && decide (z % 4294967296 ≥ 2147483648)) = true then z % 4294967296 - 4294967296 else z % 4294967296) = _
    simp
  exact ⟨(z % 4294967296).toNat, by rw [this]; omega, by omega⟩
theorem crcSum_range (l : List Int) : ∃ n : Nat, crcSum l = (n : Int) ∧ n < 4294967296 := by
  unfold crcSum
  rw [notE, xorE]
  exact wrapE_range _
end
end Go.Proofs.Ytkjhekflgghbdaa
set_option maxRecDepth 100000
namespace Go.Eng
section
variable {P : Program}
/-- 'v[i:j:m]'. -/
theorem sl_three {t : TypeId} (h : isSlB P t = true) {a : Option Addr} {len cap : Nat} {k1 k2 k3 : IntKind} {i j m : Nat} (h0 : i ≤ j) (h1 : j ≤ m) (h2 : m ≤ cap) (w : World) (K : KV) :
    slT P t (.slice a len cap) (some (.int k1 (i : Int))) (some (.int k2 (j : Int))) (some (.int k3 (m : Int))) w K = K (.slice (if m = i then a else a.map (·.add (i * szE P t))) (j - i) (m - i)) w := by
  obtain ⟨hu, inf, hi, hs⟩ := isSlB_spec h
  have h3 : i ≤ m := by omega
  simp [slT, semT, Instr.sliceAt, Instr.slice, Instr.sliceBounds, Instr.sliceBound, asIntOf, Sem.run_bind, run_underlying' hu, Result.andThen, Sem.run_pure, run_size' hi, hs, h0, h1, h2, h3]
theorem Sl.three {α : Type} {enc : α → List Value} {sz : Nat} {w : World} {v : Value} {l : List α} {i j : Nat} (hs : Sl w sz enc v l) {t : TypeId} (h : isSlB P t = true) (hz : szE P t = sz) {k1 k2 k3 : IntKind} (h0 : i ≤ j) (h1 : j ≤ l.length) :
    ∃ v', Sl w sz enc v' ((l.drop i).take (j - i)) ∧ (∀ b, v'.ownBlock = some b → v.ownBlock = some b) ∧ ∀ w1 K, slT P t v (some (.int k1 (i : Int))) (some (.int k2 (j : Int))) (some (.int k3 (j : Int))) w1 K = K v' w1 := by
  obtain ⟨a, cap, rfl, g1, g2, g3⟩ := hs
  refine ⟨_, ?_, ?_, fun w1 K => sl_three h h0 (Nat.le_refl _) (by omega) w1 K⟩
  · have hlen : ((l.drop i).take (j - i)).length = j - i := by simp; omega
    refine ⟨_, _, by rw [hlen], by omega, by omega, fun k x hk => ?_⟩
    have hk' : k < j - i := by have := (List.getElem?_eq_some_iff.1 hk).1; omega
    rw [List.getElem?_take_of_lt hk', List.getElem?_drop] at hk
    obtain ⟨b, o, rfl, hb, hr⟩ := g3 (i + k) x hk
    rw [if_neg (by omega)]
    refine ⟨b, o + i * sz, by simp [Addr.add, hz], hb, ?_⟩
    rw [Nat.add_assoc, ← Nat.add_mul]; exact hr
  · intro b hb
    cases a with
    | none => split at hb <;> simp [Value.ownBlock] at hb
    | some a =>
      have : ∀ k, (a.add k).block = a.block := fun k => by unfold Addr.add; split <;> rfl
      split at hb <;> simp_all [Value.ownBlock]
theorem slT_inj {t : TypeId} {v v1 v2 : Value} {lo hi mx : Option Value} (h1 : ∀ w1 K, slT P t v lo hi mx w1 K = K v1 w1) (h2 : ∀ w1 K, slT P t v lo hi mx w1 K = K v2 w1) (w : World) : v1 = v2 := by
  have h := (h1 w fun x _ => x = v1).symm.trans (h2 w fun x _ => x = v1)
  exact (h.mp rfl).symm
end
end Go.Eng
namespace Go.Proofs.Ytkjhekflgghbdaa
open Go.Eng Go.Proofs.Ytkjhekflgghbdaa.Sint
section
variable {w0 w : World} {R : List Asn} {v : Value} {l : List Int}
theorem cloneB_st (S : St w0 w R) (hs : SlB w v l) (hlen : l.length ≤ 100000000) {K : KV} (h : ∀ w' v', St w0 w' (rowB v' l :: R) → K v' w') : fcallT P F.slices_Clone_byte_byte [v] w K := by
  rw [M.slices_Clone_byte_byte.fcall]
  apply M.slices_Clone_byte_byte.calls
  unfold M.slices_Clone_byte_byte
  simp only [joinT_eq]
  have hs' := hs
  obtain ⟨a, cap, rfl, _⟩ := hs'
  cases a with
  | none =>
    simp
    have hz : l = [] := by
      obtain ⟨a', cap', hv, _, _, h3⟩ := hs
      cases l with
      | nil => rfl
      | cons x l =>
        obtain ⟨b, o, ha, _⟩ := h3 0 x rfl
        injection hv with h1 _ _
        rw [← h1] at ha; cases ha
    subst hz
    exact h w _ (Eng.nilRow S)
  | some a =>
    simp
    have S1 : St w0 (w.alloc (.cells #[] T.uint8)) (rowB (.slice (some ⟨w.heap.size, 0, none⟩) 0 0) [] :: R) := St.newRow (l := ([] : List Int)) S encB_len rfl (by simp)
    refine Go.Eng.moreRow et.sl_uint8 encB_len encB_one S1 (hs.fr ((Fr.refl (fun _ => False) w).alloc _) fun _ _ _ h => h) (by simp; omega) (by decide) fun w2 v2 S2 => ?_
    exact h w2 v2 S2
/-- Two rows of bytes, joined. -/
theorem join2_st {v1 v2 : Value} {l1 l2 : List Int} (S : St w0 w R) (s1 : SlB w v1 l1) (s2 : SlB w v2 l2) (hl : l1.length + l2.length ≤ 100000000) {K : KV} (h : ∀ w' v', St w0 w' (rowB v' (l1 ++ l2) :: R) → K v' w') :
    bsT P T.sl_sl_uint8 2 #[(0, v1), (1, v2)] w fun t w => fcallT P F.slices_Concat_byte_byte [t] w K := by
  obtain ⟨a1, k1, hv1, _⟩ := id s1
  obtain ⟨a2, k2, hv2, _⟩ := id s2
  have hbs : ∀ K', bsT P T.sl_sl_uint8 2 #[(0, v1), (1, v2)] w K' = K' (.slice (some ⟨w.heap.size, 0, none⟩) 2 2) (w.alloc (.cells #[v1, v2] T.sl_uint8)) := fun K' => by rw [hv1, hv2]; simp
  rw [hbs]
  have f1 : Fr (fun _ => False) w (w.alloc (.cells #[v1, v2] T.sl_uint8)) := (Fr.refl _ w).alloc _
  have hn : (w.alloc (.cells #[v1, v2] T.sl_uint8)).heap[w.heap.size]? = some (.cells (([(v1, l1), (v2, l2)] : List (Value × List Int)).map (·.1)).toArray T.sl_uint8 (0, 0)) := by
    rw [alloc_heap, if_pos rfl]; rfl
  rw [M.slices_Concat_byte_byte.fcall]
  refine CB.concat_ok (L := [(v1, l1), (v2, l2)]) hn (fun p hp => ?_) (by simp [CB.tot]; omega) (by simp) fun w' v o f2 => ?_
  · simp at hp
    rcases hp with rfl | rfl
    · exact s1.fr f1 fun _ _ _ h => h
    · exact s2.fr f1 fun _ _ _ h => h
  · have hs : w.heap.size ≤ (w.alloc (.cells #[v1, v2] T.sl_uint8)).heap.size := f1.size
    refine h w' v (S.add (a := rowB v (l1 ++ l2)) (f1.trans f2) (B := fun b => v.ownBlock = some b) ⟨?_, fun b hb => hb⟩ fun b hb => ?_)
    · simpa using o.mono (Nat.zero_le _)
    · have := o.lt hb
      exact ⟨by omega, this.2⟩
/-! ### Frames -/
def bodyF (d : List Int) : List Int := put32 (d.length : Int) ++ d
def frameF (d : List Int) : List Int := bodyF d ++ put32 (crcSum (bodyF d))
theorem frameF_len (d : List Int) : (frameF d).length = d.length + 8 := by unfold frameF bodyF; simp [put32_len]; omega
theorem fput_st {dv : Value} {d : List Int} {v0 : Value} {l0 : List Int} (S : St w0 w R) (h0 : ∀ w' L, St w0 w' (L ++ R) → SlB w' v0 l0) (hd : ∀ w' L, St w0 w' (L ++ R) → SlB w' dv d) (hl0 : l0.length ≤ 10000000) (hl : d.length ≤ 1000000000) {K : KV}
    (h : ∀ w' v', St w0 w' (rowB v' (if 8192 < d.length then [] else l0 ++ frameF d) :: R) → K (.tuple #[v', .int .i64 (if 8192 < d.length then 4 else 0)]) w') : fcallT P F.frame_Put [v0, dv] w K := by
  rw [M.frame_Put.fcall]
  apply M.frame_Put.calls
  unfold M.frame_Put
  rw [joinT_eq, (hd w [] S).len_ok (by kernel_rfl)]
  by_cases hbig : 8192 < d.length
  · have hbig' : (8192 : Int) < d.length := by omega
    rw [if_pos hbig] at h
    simp only [if_pos hbig] at h
    simp [hbig']
    exact h w _ (Eng.nilRow S)
  · have hbig' : ¬ (8192 : Int) < d.length := by omega
    rw [if_neg hbig] at h
    simp only [if_neg hbig] at h
    simp [hbig']
    unfold M.frame_Put.j0
    rw [(hd w [] S).len_ok (by kernel_rfl), cv_ints (ks := .i64) (kd := .u32) (by kernel_rfl) (by kernel_rfl), wrapE (by omega)]
    refine put32_st (Eng.nilRow S) (by simp) _ fun w1 v1 S1 => ?_
    rw [List.nil_append] at S1
    refine Go.Eng.moreRow et.sl_uint8 encB_len encB_one S1 (hd w1 [_] S1) (by simp [put32_len]; omega) (by decide) fun w2 v2 S2 => ?_
    have S2' : St w0 w2 (rowB v2 (bodyF d) :: R) := S2
    have hbl : (bodyF d).length = d.length + 4 := by unfold bodyF; simp [put32_len]; omega
    refine sum_ok (S2'.row encB_len) (by omega) ?_
    refine put32_st S2' (by omega) _ fun w3 v3 S3 => ?_
    have S3' : St w0 w3 (rowB v3 (frameF d) :: R) := S3
    have hfl := frameF_len d
    refine join2_st S3' (h0 w3 [_] S3') (S3'.row encB_len) (by omega) fun w4 v4 S4 => ?_
    exact h w4 v4 S4.swap.drop
def cutF (l : List Int) : Option (List Int) × Int :=
  if l.length < 4 then (none, 3) else if 8192 < u32F l then (none, 2) else if (l.length : Int) - 4 < 4 + u32F l then (none, 3)
  else if crcSum (l.take (4 + (u32F l).toNat)) ≠ u32F (l.drop (4 + (u32F l).toNat)) then (none, 2) else (some ((l.drop 4).take (u32F l).toNat), 0)
theorem u32F_range (l : List Int) : ∃ n : Nat, u32F l = (n : Int) ∧ n < 4294967296 := by
  show ∃ n : Nat, u32N l 4 = _ ∧ _
  rw [u32N, orE]
  exact wrapE_range _
theorem fcut_st (S : St w0 w R) (hs : ∀ w' L, St w0 w' (L ++ R) → SlB w' v l) (hl : l.length ≤ 10000000) {K : KV}
    (h : ∀ w' dv rv, St w0 w' (rowB dv ((cutF l).1.getD []) :: R) → K (.tuple #[dv, rv, .int .i64 (cutF l).2]) w') : fcallT P F.frame_Cut [v] w K := by
  rw [M.frame_Cut.fcall]
  apply M.frame_Cut.calls
  unfold M.frame_Cut
  have s0 := hs w [] S
  have hlen : ∀ w' K', biT P .len #[T.sl_uint8] T.int [false] [v] w' K' = K' (.int .i64 l.length) w' := fun w' K' => s0.len_ok (by kernel_rfl) [false]
  rw [joinT_eq, hlen]
  unfold cutF at h
  by_cases c1 : l.length < 4
  · have c1' : (l.length : Int) < 4 := by omega
    simp only [if_pos c1] at h
    simp [c1']
    exact h w _ _ (Eng.nilRow S)
  · have c1' : ¬ (l.length : Int) < 4 := by omega
    simp only [if_neg c1] at h
    simp [c1']
    unfold M.frame_Cut.j0
    refine u32_ok s0 (by omega) ?_
    obtain ⟨n, hn, hn2⟩ := u32F_range l
    rw [hn] at h ⊢
    have hw1 : IntKind.i64.wrap (n : Int) = n := wrapI (by omega)
    have hw2 : IntKind.i64.wrap (4 + (n : Int)) = ((4 + n : Nat) : Int) := by rw [wrap_id (by omega) (by omega)]; omega
    rw [cv_ints (ks := .u32) (kd := .i64) (by kernel_rfl) (by kernel_rfl), hw1, bin_add, hw2, bin_gtr]
    by_cases c2 : (8192 : Int) < n
    · simp only [if_pos c2] at h
      rw [decide_eq_true c2, Eng.cond_true]
      exact h w _ _ (Eng.nilRow S)
    · simp only [if_neg c2] at h
      rw [decide_eq_false c2, Eng.cond_false, hlen, bin_sub, wrap_id (by omega) (by omega), bin_lss]
      by_cases c3 : (l.length : Int) - 4 < 4 + (n : Int)
      · simp only [if_pos c3] at h
        rw [decide_eq_true (by omega), Eng.cond_true]
        exact h w _ _ (Eng.nilRow S)
      · simp only [if_neg c3] at h
        rw [decide_eq_false (by omega), Eng.cond_false]
        rw [Int.toNat_natCast] at h
        obtain ⟨va, sa, pa, ra⟩ := s0.sub (P := P) (t := T.sl_uint8) (lo := none) (hi := some (.int .i64 ((4 + n : Nat) : Int))) (i := 0) (j := 4 + n) (by kernel_rfl) (by kernel_rfl) (.inl ⟨rfl, rfl⟩) (.inr ⟨_, rfl⟩) (Nat.zero_le _) (by omega)
        obtain ⟨vb, sb, pb, rb⟩ := s0.sub (P := P) (t := T.sl_uint8) (lo := some (.int .i64 ((4 + n : Nat) : Int))) (hi := none) (i := 4 + n) (j := l.length) (by kernel_rfl) (by kernel_rfl) (.inr ⟨_, rfl⟩) (.inl ⟨rfl, rfl⟩) (by omega) (Nat.le_refl _)
        have ea : List.take (4 + n - 0) (List.drop 0 l) = l.take (4 + n) := by simp
        have eb : List.take (l.length - (4 + n)) (List.drop (4 + n) l) = l.drop (4 + n) := List.take_of_length_le (by simp)
        rw [ea] at sa
        rw [eb] at sb
        have fd : Fr (fun _ => False) w (Eng.dr w 1) := (Fr.refl _ w).dr 1
        simp only [drawT_eq, quietT_eq, ra, rb, stabT_eq, true_and, and_true]
        have Sd := S.step fd
        have hlt : (l.take (4 + n)).length = 4 + n := by simp; omega
        have hld : (l.drop (4 + n)).length = l.length - (4 + n) := by simp
        refine sum_ok (sa.fr fd fun _ _ _ h => h) (by omega) ?_
        refine u32_ok (sb.fr fd fun _ _ _ h => h) (by omega) ?_
        rw [bin_neq]
        by_cases c4 : crcSum (l.take (4 + n)) = u32F (l.drop (4 + n))
        · simp only [if_neg (show ¬ crcSum (l.take (4 + n)) ≠ u32F (l.drop (4 + n)) from fun h => h c4)] at h
          refine ⟨rfl, ?_⟩
          rw [decide_eq_false (fun h => h c4), Eng.cond_false]
          obtain ⟨vc, sc, pc, rc⟩ := Eng.Sl.three (P := P) (t := T.sl_uint8) (k1 := .i64) (k2 := .i64) (k3 := .i64) (i := 4) (j := 4 + n) s0 (by kernel_rfl) (by kernel_rfl) (by omega) (by omega)
          have rc' : ∀ w1 K, slT P T.sl_uint8 v (some (.int .i64 4)) (some (.int .i64 ((4 + n : Nat) : Int))) (some (.int .i64 ((4 + n : Nat) : Int))) w1 K = K vc w1 := rc
          have ec : List.take (4 + n - 4) (List.drop 4 l) = (l.drop 4).take n := by congr 1; omega
          rw [ec] at sc
          have hw3 : IntKind.i64.wrap (((4 + n : Nat) : Int) + 4) = ((8 + n : Nat) : Int) := by rw [wrap_id (by omega) (by omega)]; omega
          obtain ⟨ve, se, pe, re⟩ := s0.sub (P := P) (t := T.sl_uint8) (lo := some (.int .i64 ((8 + n : Nat) : Int))) (hi := none) (i := 8 + n) (j := l.length) (by kernel_rfl) (by kernel_rfl) (.inr ⟨_, rfl⟩) (.inl ⟨rfl, rfl⟩) (by omega) (Nat.le_refl _)
          have fd2 : Fr (fun _ => False) w (Eng.dr (Eng.dr w 1) 1) := fd.dr 1
          simp only [rc', bin_add, hw3, re, stabT_eq, true_and, and_true]
          have S2 := Sd.step ((Fr.refl (fun _ => False) (Eng.dr w 1)).dr 1)
          refine cloneB_st S2 (sc.fr fd2 fun _ _ _ h => h) (by simp; omega) fun w2 dv S3 => ?_
          obtain ⟨vf, sf, _, rf⟩ := (hs w2 [_] S3).sub (P := P) (t := T.sl_uint8) (lo := some (.int .i64 ((8 + n : Nat) : Int))) (hi := none) (i := 8 + n) (j := l.length) (by kernel_rfl) (by kernel_rfl) (.inr ⟨_, rfl⟩) (.inl ⟨rfl, rfl⟩) (by omega) (Nat.le_refl _)
          have hvf : ve = vf := slT_inj re rf w2
          rw [← hvf] at sf
          refine cloneB_st S3 sf (by simp; omega) fun w3 rv S4 => ?_
          exact h w3 dv rv S4.drop
        · simp only [if_pos c4] at h
          refine ⟨rfl, ?_⟩
          rw [decide_eq_true c4, Eng.cond_true]
          exact h _ _ _ (Eng.nilRow Sd)
end
end Go.Proofs.Ytkjhekflgghbdaa
set_option maxRecDepth 100000
namespace Go.Proofs.Ytkjhekflgghbdaa
open Go.Eng Go.Proofs.Ytkjhekflgghbdaa.Sint
structure SV where
  a : Option Addr
  n : Nat
  c : Nat
def SV.v (s : SV) : Value := .slice s.a s.n s.c
def encSV (s : SV) : List Value := [s.v]
theorem encSV_len (s : SV) : (encSV s).length = 1 := rfl
theorem encSV_one (s : SV) : ∀ u ∈ encSV s, oneC u = true := fun u hu => by simp [encSV] at hu; subst hu; rfl
def rowsB (vs : List SV) (ls : List (List Int)) : List Asn := List.zipWith (fun s l => rowB s.v l) vs ls
def listL (v : Value) (vs : List SV) (ls : List (List Int)) : List Asn := [Eng.rowO T.sl_uint8 1 encSV v vs, allA (rowsB vs ls)]
/-- A list of bytes, the state's own. -/
def listA (v : Value) (ls : List (List Int)) : Asn where
  ok w B := ∃ vs, vs.length = ls.length ∧ Rs (listL v vs ls) w B
  keep := by
    rintro w w' B S ⟨vs, h1, h2⟩ hf hn
    exact ⟨vs, h1, h2.keep hf hn⟩
section
variable {w0 w : World} {R : List Asn} {v : Value} {ls : List (List Int)} {vs : List SV}
theorem unList (S : St w0 w (listA v ls :: R)) : ∃ vs, vs.length = ls.length ∧ St w0 w (Eng.rowO T.sl_uint8 1 encSV v vs :: allA (rowsB vs ls) :: R) := by
  obtain ⟨B, ⟨vs, h1, h2⟩, _, cl⟩ := S.open
  exact ⟨vs, h1, cl w (listL v vs ls) (Fr.refl _ _) (h2.mono fun b hb => .inl hb)⟩
theorem mkList (h : vs.length = ls.length) (S : St w0 w (Eng.rowO T.sl_uint8 1 encSV v vs :: allA (rowsB vs ls) :: R)) : St w0 w (listA v ls :: R) := by
  obtain ⟨U, h1, _, g⟩ := St.openL (L := listL v vs ls) (R := R) S
  exact g w [listA v ls] (Fr.refl _ _) ⟨U, ⟨vs, h, h1⟩, fun b hb => .inl hb, trivial⟩
theorem nilList (S : St w0 w R) : St w0 w (listA (.slice none 0 0) [] :: R) := mkList (vs := []) rfl (nilRowO (St.all.2 S))
theorem list_len (S : St w0 w (listA v ls :: R)) (w' : World) (K : KV) : biT P .len #[T.sl_sl_uint8] T.int [false] [v] w' K = K (.int .i64 ls.length) w' := by
  obtain ⟨vs, h, S1⟩ := unList S
  rw [(S1.rowO encSV_len).len_ok (by kernel_rfl), h]
theorem list_form (S : St w0 w (listA v ls :: R)) : ∃ a cap, v = .slice a ls.length cap := by
  obtain ⟨vs, h, S1⟩ := unList S
  obtain ⟨a, cap, hv, _⟩ := S1.rowO encSV_len
  exact ⟨a, cap, by rw [hv, h]⟩
/-- One of them is read. -/
theorem list_at (S : St w0 w (listA v ls :: R)) {i : Nat} (hi : i < ls.length) : ∃ b o s, (∀ w' K, iaT P T.sl_sl_uint8 v (.int .i64 (i : Nat)) w' K = K (.pointer (some ⟨b, o, none⟩)) w') ∧ (∀ {w1 : World} {R1 : List Asn}, St w0 w1 (listA v ls :: R1) → cellOf w b o = some (SV.v s)) ∧ cellOf w b o = some (SV.v s) ∧ SlB w (SV.v s) ls[i] := by
  obtain ⟨vs, h, S1⟩ := unList S
  have hi' : i < vs.length := by omega
  obtain ⟨b, o, cap, hv, _, _, hc⟩ := (S1.rowO encSV_len : Sl w 1 encSV v vs).at hi'
  have c0 := hc 0 _ rfl
  simp only [Nat.mul_one, Nat.add_zero] at c0
  have S2 := St.listAt (j := i) (L := rowsB vs ls) (by simp [rowsB]; omega) S1.swap
  unfold rowsB at S2
  rw [List.getElem_zipWith] at S2
  exact ⟨b, o + i, vs[i], fun w' K => by rw [hv]; simp [hi'], fun _ => c0, c0, S2.row encB_len⟩
theorem list_push {s : SV} {d : List Int} (S : St w0 w (rowB s.v d :: listA v ls :: R)) (hl : ls.length ≤ 1000000) {cs : List Bool} {ty : TypeId} {K : KV} (h : ∀ w' v', St w0 w' (listA v' (ls ++ [d]) :: R) → K v' w') :
    bsT P T.sl_sl_uint8 1 #[(0, s.v)] w fun t w => biT P .append #[T.sl_sl_uint8, T.sl_sl_uint8] ty cs [v, t] w K := by
  have hbs : ∀ K', bsT P T.sl_sl_uint8 1 #[(0, s.v)] w K' = K' (.slice (some ⟨w.heap.size, 0, none⟩) 1 1) (w.alloc (.cells #[s.v] T.sl_uint8)) := fun K' => by unfold SV.v; simp
  rw [hbs]
  obtain ⟨vs, h1, S1⟩ := unList S.swap
  have S2 : St w0 (w.alloc (.cells #[s.v] T.sl_uint8)) (rowA T.sl_uint8 1 encSV (.slice (some ⟨w.heap.size, 0, none⟩) 1 1) [s] :: Eng.rowO T.sl_uint8 1 encSV v vs :: allA (rowsB vs ls) :: rowB s.v d :: R) := St.newRow (l := [s]) S1 encSV_len rfl (by unfold maxLen; simp)
  refine moreRowO et.sl_sl_uint8 encSV_len encSV_one S2.swap (S2.row encSV_len) (by simp; omega) (by decide) fun w2 v2 S3 => ?_
  have S4 : St w0 w2 (Eng.rowO T.sl_uint8 1 encSV v2 (vs ++ [s]) :: allA (rowsB vs ls) :: rowB s.v d :: R) := S3.swap.drop
  refine h w2 v2 (mkList (vs := vs ++ [s]) (by simp [h1]) ?_)
  have S5 := St.all.1 S4.swap
  have e : rowsB (vs ++ [s]) (ls ++ [d]) = rowsB vs ls ++ [rowB s.v d] := by unfold rowsB; rw [List.zipWith_append h1]; rfl
  have S6 : St w0 w2 (allA (rowsB (vs ++ [s]) (ls ++ [d])) :: Eng.rowO T.sl_uint8 1 encSV v2 (vs ++ [s]) :: R) := by
    refine St.all.2 ?_
    rw [e, List.append_assoc]
    refine S5.perm (List.Perm.append_left _ ?_)
    exact List.Perm.swap _ _ _
  exact S6.swap
/-- 'v[1:]'. -/
theorem list_tail {d : List Int} (S : St w0 w (listA v (d :: ls) :: R)) {k : IntKind} : ∃ v', St w0 w (listA v' ls :: R) ∧ ∀ w1 K, slT P T.sl_sl_uint8 v (some (.int k 1)) none none w1 K = K v' w1 := by
  obtain ⟨vs, h1, S1⟩ := unList S
  cases vs with
  | nil => simp at h1
  | cons s vs =>
    obtain ⟨v', S2, hv⟩ := S1.subO (P := P) (t := T.sl_sl_uint8) encSV_len (by kernel_rfl) (by kernel_rfl) (i := 1) (by simp) (k := k)
    refine ⟨v', mkList (vs := vs) (by simpa using h1) ?_, hv⟩
    have S3 : St w0 w (Eng.rowO T.sl_uint8 1 encSV v' vs :: allA (rowsB (s :: vs) (d :: ls)) :: R) := S2
    have S4 := St.all.1 S3.swap
    have S5 : St w0 w (rowB s.v d :: (rowsB vs ls ++ Eng.rowO T.sl_uint8 1 encSV v' vs :: R)) := S4
    exact (St.all.2 S5.drop).swap
end
/-! ### All frames -/
def allG (l : List Int) : Nat → Nat → List (List Int) × Nat
  | 0, used => ([], used)
  | f + 1, used => if used < l.length then match (cutF ((l.drop used).take 8200)).1 with
      | none => ([], used)
      | some d => (d :: (allG l f (used + d.length + 8)).1, (allG l f (used + d.length + 8)).2)
    else ([], used)
def allF (l : List Int) : List (List Int) × Nat := allG l (l.length + 1) 0
theorem cutF_kind (l : List Int) : ((cutF l).2 = 0 ∧ ∃ d, (cutF l).1 = some d ∧ d.length + 8 ≤ l.length) ∨ ((cutF l).2 ≠ 0 ∧ (cutF l).1 = none) := by
  unfold cutF
  split
  · exact .inr ⟨by simp, rfl⟩
  · split
    · exact .inr ⟨by simp, rfl⟩
    · split
      · exact .inr ⟨by simp, rfl⟩
      · split
        · exact .inr ⟨by simp, rfl⟩
        · rename_i h1 h2 h3 h4
          refine .inl ⟨rfl, _, rfl, ?_⟩
          obtain ⟨n, hn, _⟩ := u32F_range l
          rw [hn] at h2 h3 ⊢
          rw [Int.toNat_natCast, List.length_take, List.length_drop]
          omega
section
variable {w0 w : World} {R : List Asn} {v : Value} {l : List Int}
def AlI (w0 : World) (l : List Int) (R : List Asn) : KL := fun x w1 => ∃ (u0 u1 u2 u5 v : Value) (acc : List (List Int)) (used f : Nat), x = [u0, u1, u2, v, .int .i64 (used : Nat), u5] ∧ used ≤ l.length ∧ l.length < f + used ∧ 8 * acc.length ≤ used ∧ allF l = (acc ++ (allG l f used).1, (allG l f used).2) ∧ St w0 w1 (listA v acc :: R)
theorem fall_st (S : St w0 w R) (hs : ∀ w' L, St w0 w' (L ++ R) → SlB w' v l) (hl : l.length ≤ 5000000) {K : KV}
    (h : ∀ w' lv k, St w0 w' (listA lv (allF l).1 :: R) → K (.tuple #[lv, .int .i64 ((allF l).2 : Nat), .int .i64 k]) w') : fcallT P F.frame_All [v] w K := by
  rw [M.frame_All.fcall]
  apply M.frame_All.calls
  unfold M.frame_All
  rw [joinT_eq]
  have h0 : AlI w0 l R [undef, undef, undef, .slice none 0 0, .int .i64 ((0 : Nat) : Int), .int .i64 0] w := by
    refine ⟨_, _, _, _, _, [], 0, l.length + 1, rfl, Nat.zero_le _, by omega, by simp, ?_, nilList S⟩
    rw [List.nil_append]
    exact (Prod.eta _).symm
  refine ⟨AlI w0 l R, fun x _ => l.length - ms x 4, h0, ?_⟩
  rintro x w1 ⟨u0, u1, u2, u5, lv, acc, used, f, rfl, hu, hf, ha, heq, S1⟩
  have q3 : gv [u0, u1, u2, lv, .int .i64 (used : Nat), u5] 3 = lv := rfl
  have q4 : gv [u0, u1, u2, lv, .int .i64 (used : Nat), u5] 4 = .int .i64 (used : Nat) := rfl
  have q5 : gv [u0, u1, u2, lv, .int .i64 (used : Nat), u5] 5 = u5 := rfl
  have s1 := hs w1 [_] S1
  have hlen : ∀ w' K', biT P .len #[T.sl_uint8] T.int [false] [v] w' K' = K' (.int .i64 l.length) w' := fun w' K' => s1.len_ok (by kernel_rfl) [false]
  unfold M.frame_All.j1
  simp only [joinT_eq, q4, hlen, bin_lss]
  cases f with
  | zero => omega
  | succ f =>
    by_cases hul : used < l.length
    · rw [decide_eq_true (show (used : Int) < l.length by omega), Eng.cond_true]
      unfold M.frame_All.j2
      have hw1 : IntKind.i64.wrap ((used : Int) + 8192) = ((used + 8192 : Nat) : Int) := by rw [wrap_id (by omega) (by omega)]; omega
      have hw2 : IntKind.i64.wrap (((used + 8192 : Nat) : Int) + 8) = ((used + 8200 : Nat) : Int) := by rw [wrap_id (by omega) (by omega)]; omega
      simp only [joinT_eq, q3, q4, q5, hlen, bin_add, hw1, hw2, min_ints]
      obtain ⟨e, he⟩ : ∃ e : Nat, min (l.length : Int) ((used + 8200 : Nat) : Int) = (e : Int) ∧ used ≤ e ∧ e ≤ l.length ∧ (l.drop used).take (e - used) = (l.drop used).take 8200 := by
        by_cases hm : l.length ≤ used + 8200
        · refine ⟨l.length, by omega, by omega, Nat.le_refl _, ?_⟩
          rw [List.take_of_length_le (by simp), List.take_of_length_le (by simp; omega)]
        · exact ⟨used + 8200, by omega, by omega, by omega, by rw [Nat.add_sub_cancel_left]⟩
      obtain ⟨he1, he2, he3, he4⟩ := he
      rw [he1]
      obtain ⟨va, sa, pa, ra⟩ := s1.sub (P := P) (t := T.sl_uint8) (lo := some (.int .i64 (used : Nat))) (hi := some (.int .i64 (e : Nat))) (i := used) (j := e) (by kernel_rfl) (by kernel_rfl) (.inr ⟨_, rfl⟩) (.inr ⟨_, rfl⟩) he2 he3
      rw [ra]
      have hrd : ∀ w' L, St w0 w' (L ++ (listA lv acc :: R)) → SlB w' va ((l.drop used).take 8200) := fun w' L S' => by
        obtain ⟨vb, sb, _, rb⟩ := (hs w' (L ++ [listA lv acc]) (by simpa using S')).sub (P := P) (t := T.sl_uint8) (lo := some (.int .i64 (used : Nat))) (hi := some (.int .i64 (e : Nat))) (i := used) (j := e) (by kernel_rfl) (by kernel_rfl) (.inr ⟨_, rfl⟩) (.inr ⟨_, rfl⟩) he2 he3
        rw [slT_inj ra rb w', ← he4]; exact sb
      refine fcut_st S1 hrd (by simp; omega) fun w2 dv rv S2 => ?_
      simp only [ex_3_0, ex_3_1, ex_3_2, bin_neq]
      have hG : allG l (f + 1) used = match (cutF ((l.drop used).take 8200)).1 with
        | none => ([], used)
        | some d => (d :: (allG l f (used + d.length + 8)).1, (allG l f (used + d.length + 8)).2) := by rw [allG, if_pos hul]
      have hck := cutF_kind ((l.drop used).take 8200)
      generalize cutF ((l.drop used).take 8200) = c at *
      obtain ⟨co, ck⟩ := c
      rcases hck with ⟨k0, d, hd, hdl⟩ | ⟨k0, hd⟩
      · simp only at k0 hd hG S2
        subst k0 hd
        simp only [Option.getD_some] at S2 hG
        have hdl' : d.length + 8 ≤ l.length - used := by simp at hdl; omega
        obtain ⟨da, dc, hdv, _⟩ : SlB w2 dv d := S2.row encB_len
        simp
        unfold M.frame_All.j3
        have hsv : dv = SV.v ⟨da, d.length, dc⟩ := hdv
        have hdlen : ∀ w' K', biT P .len #[T.sl_uint8] T.int [false] [dv] w' K' = K' (.int .i64 d.length) w' := fun w' K' => (S2.row encB_len : SlB w2 dv d).len_ok (by kernel_rfl) [false]
        have r3 : gv [lv, .int .i64 (used : Nat), u5] 0 = lv := rfl
        have r4 : gv [lv, .int .i64 (used : Nat), u5] 1 = .int .i64 (used : Nat) := rfl
        have r5 : gv [lv, .int .i64 (used : Nat), u5] 2 = u5 := rfl
        have hw3 : IntKind.i64.wrap ((d.length : Int) + 8) = ((d.length + 8 : Nat) : Int) := by rw [wrap_id (by omega) (by omega)]; omega
        have hw4 : IntKind.i64.wrap ((used : Int) + ((d.length + 8 : Nat) : Int)) = ((used + d.length + 8 : Nat) : Int) := by rw [wrap_id (by omega) (by omega)]; omega
        simp only [r3, r4, r5, hdlen, bin_add, hw3, hw4]
        rw [hsv] at S2 ⊢
        refine list_push S2 (by omega) fun w3 v3 S3 => ?_
        refine ⟨⟨_, _, _, _, v3, acc ++ [d], used + d.length + 8, f, rfl, by omega, by omega, by simp; omega, ?_, S3⟩, ?_⟩
        · rw [heq, hG]; simp
        · simp [ms, gv]; omega
      · simp only at k0 hd hG S2
        subst hd
        rw [heq, hG, List.append_nil] at h
        rw [decide_eq_true k0, Eng.cond_true]
        exact h w2 lv ck S2.drop
    · rw [decide_eq_false (show ¬ (used : Int) < l.length by omega), Eng.cond_false]
      have hG : allG l (f + 1) used = ([], used) := by rw [allG, if_neg hul]
      rw [heq, hG, List.append_nil] at h
      exact h w1 lv 0 S1
end
/-! ### Frames are found again -/
def cat (ds : List (List Int)) : List Int := ds.flatMap frameF
theorem u32_short {n : Nat} (hn : n < 4294967296) (r : List Int) (k : Nat) (hk : 4 ≤ k) : u32F ((put32 (n : Int) ++ r).take k) = n := by
  have e : (put32 (n : Int) ++ r).take k = put32 (n : Int) ++ r.take (k - 4) := by
    rw [List.take_append, List.take_of_length_le (by rw [put32_len]; omega), put32_len]
  rw [e, u32_put32 hn]
theorem cut_frame {d : List Int} (hd : d.length ≤ 8192) (r : List Int) : cutF (frameF d ++ r) = (some d, 0) := by
  have hl := frameF_len d
  have hb : (bodyF d).length = 4 + d.length := by unfold bodyF; simp [put32_len]
  have hu : u32F (frameF d ++ r) = (d.length : Int) := by
    unfold frameF bodyF
    rw [List.append_assoc, List.append_assoc]
    exact u32_put32 (by omega) _
  unfold cutF
  rw [hu, if_neg (by simp; omega), if_neg (by omega), if_neg (by simp; omega), Int.toNat_natCast]
  have e1 : (frameF d ++ r).take (4 + d.length) = bodyF d := by
    unfold frameF
    rw [List.append_assoc, List.take_left' hb]
  have e2 : u32F ((frameF d ++ r).drop (4 + d.length)) = crcSum (bodyF d) := by
    unfold frameF
    rw [List.append_assoc, List.drop_left' hb]
    obtain ⟨n, hn, hn2⟩ := crcSum_range (bodyF d)
    rw [hn]; exact u32_put32 hn2 r
  have e3 : ((frameF d ++ r).drop 4).take d.length = d := by
    unfold frameF bodyF
    rw [List.append_assoc, List.append_assoc, List.drop_left' (put32_len _), List.take_left' rfl]
  rw [e1, e2, if_neg (by simp), e3]
/-- A torn frame is none. -/
theorem cut_torn {d : List Int} (hd : d.length ≤ 8192) {k : Nat} (hk : k < (frameF d).length) : (cutF ((frameF d).take k)).1 = none := by
  have hl := frameF_len d
  unfold cutF
  by_cases h4 : k < 4
  · rw [if_pos (by simp; omega)]
  · have hu : u32F ((frameF d).take k) = (d.length : Int) := by
      unfold frameF bodyF
      rw [List.append_assoc]
      exact u32_short (by omega) _ k (by omega)
    rw [if_neg (by simp; omega), hu, if_neg (by omega), if_pos (by simp; omega)]
/-- Whole frames, then a torn one, or nothing. -/
def Torn (p : List Int) : Prop := ∃ (d : List Int) (k : Nat), d.length ≤ 8192 ∧ k < (frameF d).length ∧ p = (frameF d).take k
theorem torn_nil : Torn [] := ⟨[], 0, by simp, by rw [frameF_len]; simp, by simp⟩
theorem allG_cat {ds : List (List Int)} (hd : ∀ d ∈ ds, d.length ≤ 8192) {p : List Int} (hp : Torn p) : ∀ (a : List Int) (f : Nat), (a ++ cat ds ++ p).length < f + a.length → allG (a ++ cat ds ++ p) f a.length = (ds, (a ++ cat ds).length) := by
  induction ds with
  | nil =>
    intro a f hf
    simp only [cat, List.flatMap_nil, List.append_nil]
    cases f with
    | zero => simp [cat] at hf; omega
    | succ f =>
      rw [allG]
      by_cases hlt : a.length < (a ++ p).length
      · rw [if_pos hlt, List.drop_left' rfl]
        obtain ⟨d, k, h1, h2, rfl⟩ := hp
        have hl := frameF_len d
        rw [List.take_take, cut_torn h1 (by omega)]
      · rw [if_neg hlt]
  | cons d ds ih =>
    intro a f hf
    have hdd := hd d (by simp)
    have hl := frameF_len d
    have e0 : cat (d :: ds) = frameF d ++ cat ds := by simp [cat]
    rw [e0] at hf ⊢
    cases f with
    | zero => simp at hf; omega
    | succ f =>
      rw [allG, if_pos (by simp; omega)]
      have e1 : ((a ++ (frameF d ++ cat ds) ++ p).drop a.length).take 8200 = frameF d ++ (cat ds ++ p).take (8200 - (frameF d).length) := by
        rw [List.append_assoc, List.drop_left' rfl, List.append_assoc, List.take_append, List.take_of_length_le (by omega)]
      rw [e1, cut_frame hdd]
      have e2 : a ++ (frameF d ++ cat ds) ++ p = (a ++ frameF d) ++ cat ds ++ p := by simp
      have e3 : a.length + d.length + 8 = (a ++ frameF d).length := by simp; omega
      have := ih (fun x hx => hd x (by simp [hx])) (a ++ frameF d) f (by rw [e2] at hf; simp at hf ⊢; omega)
      simp only
      rw [e2, e3, this]
      simp [cat]
theorem allF_cat {ds : List (List Int)} (hd : ∀ d ∈ ds, d.length ≤ 8192) {p : List Int} (hp : Torn p) : allF (cat ds ++ p) = (ds, (cat ds).length) := by
  have := allG_cat hd hp [] ((cat ds ++ p).length + 1) (by simp)
  simpa [allF] using this
end Go.Proofs.Ytkjhekflgghbdaa
set_option maxRecDepth 100000
namespace Go.Proofs.Ytkjhekflgghbdaa
open Go.Eng
def encP (p : Nat) : List Value := [.pointer (some ⟨p, 0, none⟩)]
theorem encP_len (p : Nat) : (encP p).length = 1 := rfl
theorem encP_one (p : Nat) : ∀ u ∈ encP p, oneC u = true := fun u hu => by simp [encP] at hu; subst hu; rfl
end Go.Proofs.Ytkjhekflgghbdaa
set_option maxRecDepth 100000
namespace Go.Proofs.Ytkjhekflgghbdaa
open Go.Eng Go.Proofs.Ytkjhekflgghbdaa.Sint
structure Prt where
  no : Int
  first : Int
  recs : List (List Int)
  size : Int
structure Lg where
  most : Int
  parts : List Prt
def partC (q : Prt) (v : Value) : Array Value := #[.int .i64 q.no, .int .i64 q.first, v, .int .i64 q.size]
def partL (p : Nat) (v : Value) (q : Prt) : List Asn := [blkA p (partC q v) T.wal_part, listA v q.recs]
def partA (p : Nat) (q : Prt) : Asn where
  ok w B := ∃ v, Rs (partL p v q) w B
  keep := by
    rintro w w' B S ⟨v, h⟩ hf hn
    exact ⟨v, h.keep hf hn⟩
def ptr0 (p : Nat) : Value := .pointer (some ⟨p, 0, none⟩)
def logC (hb : Nat) (most : Int) (v : Value) : Array Value := #[.pointer (some ⟨hb, 0, none⟩), .int .i64 most, v]
def logL (p hb : Nat) (v : Value) (ps : List Nat) (L : Lg) : List Asn := [blkA p (logC hb L.most v) T.wal_Log, Eng.rowO T.p_wal_part 1 encP v ps, zipA partA ps L.parts]
def logA (p hb : Nat) (L : Lg) : Asn where
  ok w B := ∃ v ps, ps.length = L.parts.length ∧ Rs (logL p hb v ps L) w B
  keep := by
    rintro w w' B S ⟨v, ps, h1, h2⟩ hf hn
    exact ⟨v, ps, h1, h2.keep hf hn⟩
def Lg.next (L : Lg) : Int := match L.parts.getLast? with
  | none => 0
  | some q => IntKind.i64.wrap (q.first + q.recs.length)
section
variable {w0 w : World} {R : List Asn} {p hb : Nat} {v : Value} {ps : List Nat} {L : Lg} {q : Prt}
theorem unPart (S : St w0 w (partA p q :: R)) : ∃ v, St w0 w (blkA p (partC q v) T.wal_part :: listA v q.recs :: R) := by
  obtain ⟨B, ⟨v, h⟩, _, cl⟩ := S.open
  exact ⟨v, cl w (partL p v q) (Fr.refl _ _) (h.mono fun b hb => .inl hb)⟩
theorem mkPart (S : St w0 w (blkA p (partC q v) T.wal_part :: listA v q.recs :: R)) : St w0 w (partA p q :: R) := by
  obtain ⟨U, h1, _, g⟩ := St.openL (L := partL p v q) (R := R) S
  exact g w [partA p q] (Fr.refl _ _) ⟨U, ⟨v, h1⟩, fun b hb => .inl hb, trivial⟩
theorem unLog (S : St w0 w (logA p hb L :: R)) : ∃ v ps, ps.length = L.parts.length ∧ St w0 w (blkA p (logC hb L.most v) T.wal_Log :: Eng.rowO T.p_wal_part 1 encP v ps :: zipA partA ps L.parts :: R) := by
  obtain ⟨B, ⟨v, ps, h1, h2⟩, _, cl⟩ := S.open
  exact ⟨v, ps, h1, cl w (logL p hb v ps L) (Fr.refl _ _) (h2.mono fun b hb => .inl hb)⟩
theorem mkLog (h : ps.length = L.parts.length) (S : St w0 w (blkA p (logC hb L.most v) T.wal_Log :: Eng.rowO T.p_wal_part 1 encP v ps :: zipA partA ps L.parts :: R)) : St w0 w (logA p hb L :: R) := by
  obtain ⟨U, h1, _, g⟩ := St.openL (L := logL p hb v ps L) (R := R) S
  exact g w [logA p hb L] (Fr.refl _ _) ⟨U, ⟨v, ps, h, h1⟩, fun b hb => .inl hb, trivial⟩
theorem log_cells {most : Int} (h : w.heap[p]? = some (.cells (logC hb most v) T.wal_Log (0, 0))) : cellOf w p 0 = some (.pointer (some ⟨hb, 0, none⟩)) ∧ cellOf w p 1 = some (.int .i64 most) ∧ cellOf w p 2 = some v ∧ ∀ i, frzOf w p i = false :=
  ⟨by rw [cellOf_of h]; rfl, by rw [cellOf_of h]; rfl, by rw [cellOf_of h]; rfl, frzOf_of h⟩
theorem part_cells (h : w.heap[p]? = some (.cells (partC q v) T.wal_part (0, 0))) : cellOf w p 0 = some (.int .i64 q.no) ∧ cellOf w p 1 = some (.int .i64 q.first) ∧ cellOf w p 2 = some v ∧ cellOf w p 3 = some (.int .i64 q.size) ∧ ∀ i, frzOf w p i = false :=
  ⟨by rw [cellOf_of h]; rfl, by rw [cellOf_of h]; rfl, by rw [cellOf_of h]; rfl, by rw [cellOf_of h]; rfl, frzOf_of h⟩
/-- A pointer out of the row. -/
theorem rowPt_at (S : St w0 w (Eng.rowO T.p_wal_part 1 encP v ps :: R)) {j : Nat} (hj : j < ps.length) : ∃ b o, (∀ w' K, iaT P T.sl_p_wal_part v (.int .i64 (j : Nat)) w' K = K (.pointer (some ⟨b, o, none⟩)) w') ∧ ∀ {w1 : World} {R1 : List Asn}, St w0 w1 (Eng.rowO T.p_wal_part 1 encP v ps :: R1) → cellOf w1 b o = some (ptr0 ps[j]) := by
  obtain ⟨b, o, cap, hv, _, _, hc⟩ := (S.rowO encP_len : Sl w 1 encP v ps).at hj
  refine ⟨b, o + j, fun w' K => by rw [hv]; simp [hj], fun {w1 R1} S1 => ?_⟩
  obtain ⟨b', o', cap', hv', _, _, hc'⟩ := (S1.rowO encP_len : Sl w1 1 encP v ps).at hj
  have hx := hv.symm.trans hv'
  cases hx
  have c0 := hc' 0 _ rfl
  simp only [Nat.mul_one, Nat.add_zero] at c0
  exact c0
theorem rowPt_len (S : St w0 w (Eng.rowO T.p_wal_part 1 encP v ps :: R)) (w' : World) (K : KV) : biT P .len #[T.sl_p_wal_part] T.int [false] [v] w' K = K (.int .i64 ps.length) w' := by rw [(S.rowO encP_len : Sl w 1 encP v ps).len_ok (by kernel_rfl)]
/-! ### last, next -/
theorem last_ok (hl : ps.length = L.parts.length) (S : St w0 w (blkA p (logC hb L.most v) T.wal_Log :: Eng.rowO T.p_wal_part 1 encP v ps :: R)) (hfew : ps.length ≤ 1000000) {K : KV} (h0 : ps = [] → K (.pointer none) w) (h1 : ∀ (hp : 0 < ps.length) w', Fr (fun _ => False) w w' → K (ptr0 (ps[ps.length - 1]'(by omega))) w') : fcallT P F.pwal_Log_last [ptr0 p] w K := by
  rw [M.pwal_Log_last.fcall]
  apply M.pwal_Log_last.calls
  unfold M.pwal_Log_last ptr0
  obtain ⟨c0, c1, c2, _⟩ := log_cells S.blk
  have hlen := fun w' K => rowPt_len S.swap w' K
  by_cases hz : ps.length = 0
  · simp [c2, hlen, hz]
    exact h0 (List.length_eq_zero_iff.1 hz)
  · have hp : 0 < ps.length := by omega
    have hz' : ¬ ps = [] := fun h => hz (by rw [h]; rfl)
    obtain ⟨b, o, hia, hc⟩ := rowPt_at S.swap (j := ps.length - 1) (by omega)
    have cc : cellOf w b o = some (ptr0 (ps[ps.length - 1]'(by omega))) := hc S.swap
    have hw : IntKind.i64.wrap ((ps.length : Int) - 1) = ((ps.length - 1 : Nat) : Int) := by rw [wrap_id (by omega) (by omega)]; omega
    simp [c2, hlen, hz']
    unfold M.pwal_Log_last.j0
    simp [c2, hlen, hw, hia, cc]
    exact h1 hp _ ((Fr.refl _ w).dr 1)
theorem getLast_idx {qs : List Prt} (h : 0 < qs.length) : qs.getLast? = some (qs[qs.length - 1]'(by omega)) := by
  rw [List.getLast?_eq_getElem?, List.getElem?_eq_getElem (by omega)]
theorem next_ok (hl : ps.length = L.parts.length) (S : St w0 w (blkA p (logC hb L.most v) T.wal_Log :: Eng.rowO T.p_wal_part 1 encP v ps :: zipA partA ps L.parts :: R)) (hfew : ps.length ≤ 1000000) {K : KV} (h : ∀ w', Fr (fun _ => False) w w' → K (.int .i64 L.next) w') : fcallT P F.pwal_Log_next [ptr0 p] w K := by
  rw [M.pwal_Log_next.fcall]
  apply M.pwal_Log_next.calls
  unfold M.pwal_Log_next
  refine last_ok hl S hfew (fun hz => ?_) fun hp w1 f1 => ?_
  · have : L.parts = [] := List.length_eq_zero_iff.1 (by rw [← hl, hz]; rfl)
    have hn : L.next = 0 := by unfold Lg.next; rw [this]; rfl
    rw [hn] at h
    simp
    exact h w (Fr.refl _ _)
  · have hj : ps.length - 1 < L.parts.length := by omega
    have S1 := S.step f1
    obtain ⟨v', S2⟩ := unPart (zip_at hl hj S1.up2)
    obtain ⟨_, d1, d2, _, _⟩ := part_cells S2.blk
    have hn : L.next = IntKind.i64.wrap ((L.parts[ps.length - 1]).first + (L.parts[ps.length - 1]).recs.length) := by
      unfold Lg.next
      rw [getLast_idx (by omega)]
      simp only [hl]
    rw [hn] at h
    generalize L.parts[ps.length - 1] = q at *
    have hlen := fun w' K => list_len S2.swap w' K
    simp only [ptr0]
    simp
    unfold M.pwal_Log_next.j0
    simp [d1, d2, hlen]
    exact h _ (f1.dr 1)
/-! ### First, Files, Sync -/
def Lg.start (L : Lg) : Int := match L.parts with
  | [] => 0
  | q :: _ => q.first
theorem first_st (S : St w0 w (logA p hb L :: R)) {K : KV} (h : K (.int .i64 L.start) w) : fcallT P F.pwal_Log_First [ptr0 p] w K := by
  obtain ⟨v, ps, hl, S1⟩ := unLog S
  rw [M.pwal_Log_First.fcall]
  apply M.pwal_Log_First.calls
  unfold M.pwal_Log_First ptr0
  obtain ⟨c0, c1, c2, _⟩ := log_cells S1.blk
  have hlen := fun w' K => rowPt_len S1.swap w' K
  unfold Lg.start at h
  cases hq : L.parts with
  | nil =>
    rw [hq] at h hl
    have hz : ps = [] := List.length_eq_zero_iff.1 hl
    subst hz
    simp [c2, hlen]
    exact h
  | cons q qs =>
    rw [hq] at h hl S1
    have hz : 0 < ps.length := by rw [hl]; simp
    have hz' : ¬ ps = [] := fun h => by rw [h] at hz; simp at hz
    obtain ⟨b, o, hia, hc⟩ := rowPt_at S1.swap (j := 0) hz
    have hia0 : ∀ w' K, iaT P T.sl_p_wal_part v (.int .i64 0) w' K = K (.pointer (some ⟨b, o, none⟩)) w' := hia
    have cc : cellOf w b o = some (.pointer (some ⟨ps[0], 0, none⟩)) := hc S1.swap
    obtain ⟨v', S2⟩ := unPart (zip_at (j := 0) hl (by simp) S1.up2)
    obtain ⟨_, d1, _⟩ := part_cells S2.blk
    simp only [List.getElem_cons_zero] at d1
    simp [c2, hlen, hz']
    unfold M.pwal_Log_First.j0
    simp [c2, hia0, cc, d1]
    exact h
theorem files_lst (S : St w0 w (logA p hb L :: R)) {K : KV} (h : K (.int .i64 L.parts.length) w) : fcallT P F.pwal_Log_Files [ptr0 p] w K := by
  obtain ⟨v, ps, hl, S1⟩ := unLog S
  rw [M.pwal_Log_Files.fcall]
  apply M.pwal_Log_Files.calls
  unfold M.pwal_Log_Files ptr0
  obtain ⟨c0, c1, c2, _⟩ := log_cells S1.blk
  have hlen := fun w' K => rowPt_len S1.swap w' K
  simp [c2, hlen, hl]
  exact h
def Lg.sync (L : Lg) (D : Dk) : Dk × Int := if D.down then (D, 10) else match L.parts.getLast? with
  | none => (D, 0)
  | some q => D.sync q.no
theorem lsync_st {D : Dk} (S : St w0 w (logA p hb L :: diskA hb D :: R)) (hfew : L.parts.length ≤ 1000000) {K : KV} (h : ∀ w', St w0 w' (logA p hb L :: diskA hb (L.sync D).1 :: R) → K (.int .i64 (L.sync D).2) w') : fcallT P F.pwal_Log_Sync [ptr0 p] w K := by
  obtain ⟨v, ps, hl, S1⟩ := unLog S
  rw [M.pwal_Log_Sync.fcall]
  apply M.pwal_Log_Sync.calls
  unfold M.pwal_Log_Sync
  obtain ⟨c0, c1, c2, _⟩ := log_cells S1.blk
  simp only [ptr0]
  simp [c0]
  refine down_st S1.up3 ?_
  unfold Lg.sync at h
  cases hd : D.down with
  | true =>
    rw [hd] at h
    simp
    exact h w S
  | false =>
    rw [hd] at h
    simp only [Bool.false_eq_true, if_false] at h
    simp
    refine last_ok hl S1 (by omega) (fun hz => ?_) fun hp w1 f1 => ?_
    · have : L.parts = [] := List.length_eq_zero_iff.1 (by rw [← hl, hz]; rfl)
      rw [this] at h
      simp
      exact h w S
    · simp only [ptr0]
      simp
      unfold M.pwal_Log_Sync.j0
      have S2 := S1.step f1
      obtain ⟨e0, _, _, _⟩ := log_cells S2.blk
      have S3 := S2.step ((Fr.refl _ w1).dr 1)
      simp [e0]
      refine last_ok hl S3 (by omega) (fun hz => by rw [hz] at hp; simp at hp) fun hp w2 f2 => ?_
      have S4 := S3.step f2
      obtain ⟨g0, _, _, _⟩ := log_cells S4.blk
      have hj : ps.length - 1 < L.parts.length := by omega
      obtain ⟨v', S5⟩ := unPart (zip_at hl hj S4.up2)
      obtain ⟨d0, _, _, _, _⟩ := part_cells S5.blk
      have hgl : L.parts.getLast? = some (L.parts[ps.length - 1]) := by rw [getLast_idx (by omega)]; simp only [hl]
      rw [hgl] at h
      simp only at h
      simp [ptr0, g0, d0]
      refine sync_st S4.up3 _ fun w3 S6 => ?_
      exact h w3 (mkLog hl S6.dn3)
end
end Go.Proofs.Ytkjhekflgghbdaa
set_option maxRecDepth 100000
namespace Go.Proofs.Ytkjhekflgghbdaa
open Go.Eng Go.Proofs.Ytkjhekflgghbdaa.Sint
def Lg.all (L : Lg) : List (List Int) := L.parts.flatMap Prt.recs
section
variable {w0 w : World} {R : List Asn} {p hb : Nat} {v : Value} {ps : List Nat} {L : Lg} {q : Prt}
theorem row_sv {l : List Int} (S : St w0 w (rowB v l :: R)) : ∃ s : SV, v = s.v := by
  obtain ⟨a, c, hv, _⟩ : SlB w v l := S.row encB_len
  exact ⟨⟨a, l.length, c⟩, hv⟩
theorem nilRecs {K : KV} (h : K (.slice none 0 0) w) : fcallT P F.pwal_Log_Records [.pointer none] w K := by
  rw [M.pwal_Log_Records.fcall]
  apply M.pwal_Log_Records.calls
  unfold M.pwal_Log_Records
  simp
  exact h
def RiI (w0 : World) (rv : Value) (acc ls : List (List Int)) (R : List Asn) : KL := fun x w1 => ∃ (u0 av : Value) (j : Nat), x = [u0, av, .int .i64 (j : Nat)] ∧ j ≤ ls.length ∧ St w0 w1 (listA av (acc ++ ls.take j) :: listA rv ls :: R)
def RoI (w0 : World) (p hb : Nat) (L : Lg) (v : Value) (ps : List Nat) (R : List Asn) : KL := fun x w1 => ∃ (u0 u1 u2 u3 u4 av : Value) (i : Nat), x = [u0, u1, u2, u3, u4, av, .int .i64 (i : Nat)] ∧ i ≤ L.parts.length ∧
  St w0 w1 (listA av ((L.parts.take i).flatMap Prt.recs) :: blkA p (logC hb L.most v) T.wal_Log :: Eng.rowO T.p_wal_part 1 encP v ps :: zipA partA ps L.parts :: R)
theorem recs_le {qs : List Prt} {i : Nat} (hi : i < qs.length) (j : Nat) : ((qs.take i).flatMap Prt.recs ++ (qs[i].recs).take j).length ≤ (qs.flatMap Prt.recs).length := by
  have e : qs.flatMap Prt.recs = (qs.take i).flatMap Prt.recs ++ (qs[i].recs ++ (qs.drop (i + 1)).flatMap Prt.recs) := by
    conv => lhs; rw [← List.take_append_drop i qs, List.drop_eq_getElem_cons hi]
    rw [List.flatMap_append, List.flatMap_cons]
  rw [e]
  simp only [List.length_append, List.length_take]
  omega
theorem recs_st (S : St w0 w (logA p hb L :: R)) (hfew : L.parts.length ≤ 1000000) (hall : L.all.length ≤ 1000000) (hrec : ∀ q ∈ L.parts, ∀ d ∈ q.recs, d.length ≤ 100000000) {K : KV} (h : ∀ w' v', St w0 w' (listA v' L.all :: logA p hb L :: R) → K v' w') : fcallT P F.pwal_Log_Records [ptr0 p] w K := by
  obtain ⟨v, ps, hl, S1⟩ := unLog S
  rw [M.pwal_Log_Records.fcall]
  apply M.pwal_Log_Records.calls
  unfold M.pwal_Log_Records ptr0
  obtain ⟨c0, c1, c2, _⟩ := log_cells S1.blk
  have hlen := fun w' K => rowPt_len S1.swap w' K
  simp
  unfold M.pwal_Log_Records.j0
  simp [c2, hlen]
  have S2 := nilList S1
  refine ⟨RoI w0 p hb L v ps R, fun x _ => L.parts.length - ms x 6, ⟨_, _, _, _, _, _, 0, rfl, Nat.zero_le _, S2⟩, ?_⟩
  rintro x w1 ⟨u0, u1, u2, u3, u4, av, i, rfl, hi, S3⟩
  by_cases hlt : i < L.parts.length
  · have hltp : i < ps.length := by omega
    have hlti : (i : Int) < (ps.length : Int) := by omega
    obtain ⟨b, o, hia, hc⟩ := rowPt_at S3.up2 (j := i) hltp
    have cc : cellOf w1 b o = some (ptr0 ps[i]) := hc S3.up2
    simp [hlti]
    unfold M.pwal_Log_Records.j3
    obtain ⟨rv, S4⟩ := unPart (zip_at hl hlt S3.up3)
    obtain ⟨_, _, d2, _, _⟩ := part_cells S4.blk
    have hq2 := hrec _ (List.getElem_mem hlt : L.parts[i] ∈ L.parts)
    have hrl : ∀ j, ((L.parts.take i).flatMap Prt.recs ++ (L.parts[i].recs).take j).length ≤ 1000000 := fun j => Nat.le_trans (recs_le hlt j) hall
    have hnext : (L.parts.take i).flatMap Prt.recs ++ L.parts[i].recs = (L.parts.take (i + 1)).flatMap Prt.recs := by rw [List.take_succ_eq_append_getElem hlt, List.flatMap_append]; simp
    have S5 : St w0 w1 (listA av ((L.parts.take i).flatMap Prt.recs) :: listA rv L.parts[i].recs :: blkA ps[i] (partC L.parts[i] rv) T.wal_part :: zipR partA ps L.parts i :: blkA p (logC hb L.most v) T.wal_Log :: Eng.rowO T.p_wal_part 1 encP v ps :: R) := S4.up3.perm (.cons _ (.swap _ _ _))
    have hback : ∀ {w2 : World} {av' : Value} {A : List (List Int)}, St w0 w2 (listA av' A :: listA rv L.parts[i].recs :: blkA ps[i] (partC L.parts[i] rv) T.wal_part :: zipR partA ps L.parts i :: blkA p (logC hb L.most v) T.wal_Log :: Eng.rowO T.p_wal_part 1 encP v ps :: R) → St w0 w2 (listA av' A :: blkA p (logC hb L.most v) T.wal_Log :: Eng.rowO T.p_wal_part 1 encP v ps :: zipA partA ps L.parts :: R) := fun T => (zip_same hl hlt (mkPart (St.dn3 (T.perm (.cons _ (.swap _ _ _)))))).dn3
    generalize (L.parts.take i).flatMap Prt.recs = A at *
    generalize hrs : L.parts[i].recs = rs at *
    generalize blkA ps[i] (partC L.parts[i] rv) T.wal_part :: zipR partA ps L.parts i :: blkA p (logC hb L.most v) T.wal_Log :: Eng.rowO T.p_wal_part 1 encP v ps :: R = R' at S5 hback
    have hlen2 := fun w' K => list_len S5.swap w' K
    simp only [ptr0] at cc d2
    simp [ptr0, hia, cc, d2, hlen2]
    have h0 : RiI w0 rv A rs R' [gv [u0, u1, u2, u3, u4, av, .int .i64 (i : Nat)] 4, gv [u0, u1, u2, u3, u4, av, .int .i64 (i : Nat)] 5, .int .i64 ((0 : Nat) : Int)] w1 := ⟨_, _, 0, rfl, Nat.zero_le _, by rw [List.take_zero, List.append_nil]; exact S5⟩
    refine ⟨RiI w0 rv A rs R', fun x _ => rs.length - ms x 2, h0, ?_⟩
    rintro x w2 ⟨t0, bv, j, rfl, hj, S6⟩
    by_cases hltj : j < rs.length
    · have hltji : (j : Int) < (rs.length : Int) := by omega
      obtain ⟨b2, o2, s, hia2, _, hc2, hs2⟩ := list_at S6.swap hltj
      simp [hltji]
      unfold M.pwal_Log_Records.j6
      simp only [SV.v] at hc2
      simp [hia2, hc2]
      refine cloneB_st S6 hs2 (hq2 _ (List.getElem_mem hltj)) fun w3 v3 S7 => ?_
      obtain ⟨s3, rfl⟩ := row_sv S7
      refine list_push S7 (Nat.le_trans (by simp) (hrl j)) fun w4 v4 S8 => ?_
      rw [List.append_assoc, ← List.take_succ_eq_append_getElem hltj] at S8
      have hw : IntKind.i64.wrap ((j : Int) + 1) = ((j + 1 : Nat) : Int) := by have := hrl rs.length; simp at this; rw [wrap_id (by omega) (by omega)]; omega
      try simp
      rw [hw]
      refine ⟨⟨_, _, j + 1, rfl, hltj, S8⟩, ?_⟩
      simp [ms, gv]; omega
    · have hge : ¬ (j : Int) < (rs.length : Int) := by omega
      simp [hge]
      have hw : IntKind.i64.wrap ((i : Int) + 1) = ((i + 1 : Nat) : Int) := by rw [wrap_id (by omega) (by omega)]; omega
      rw [hw]
      rw [List.take_of_length_le (by omega), hnext] at S6
      refine ⟨⟨_, _, _, _, _, _, i + 1, rfl, hlt, hback S6⟩, ?_⟩
      simp [ms, gv]; omega
  · have hge : ¬ (i : Int) < (ps.length : Int) := by omega
    simp [hge]
    have he : (L.parts.take i).flatMap Prt.recs = L.all := by rw [List.take_of_length_le (by omega)]; rfl
    rw [he] at S3
    exact h w1 av (mkLog hl S3.dn3).swap
end
end Go.Proofs.Ytkjhekflgghbdaa
set_option maxRecDepth 100000
namespace Go.Proofs.Ytkjhekflgghbdaa
open Go.Eng Go.Proofs.Ytkjhekflgghbdaa.Sint
def dropG (n : Int) : List Prt → Dk → (List Prt × Dk) × Int
  | q :: q2 :: r, D => if q2.first ≤ n then (if (D.remove q.no).2 = 0 then dropG n (q2 :: r) (D.remove q.no).1 else ((q :: q2 :: r, (D.remove q.no).1), (D.remove q.no).2)) else ((q :: q2 :: r, D), 0)
  | qs, D => ((qs, D), 0)
def Lg.drop (L : Lg) (D : Dk) (n : Int) : (Lg × Dk) × Int := if n < 0 ∨ L.next < n then ((L, D), 1) else if D.down then ((L, D), 10) else (({ L with parts := (dropG n L.parts D).1.1 }, (dropG n L.parts D).1.2), (dropG n L.parts D).2)
section
variable {w0 w : World} {R : List Asn} {p hb : Nat} {v : Value} {ps : List Nat} {L : Lg} {q : Prt} {D : Dk}
theorem cellSet {cs cs' : Array Value} {e : TypeId} {b i : Nat} {u : Value} (S : St w0 w (blkA b cs e :: R)) (hc : cs.setIfInBounds i u = cs') : St w0 (w.setCell ⟨b, i, none⟩ u) (blkA b cs' e :: R) :=
  S.turn ((Fr.refl (fun x => x = b) w).setCell (.inl rfl) _ _) ((setCell_at S.blk).trans (by rw [hc]))
def logLen (p : Nat) (w : World) : Nat := match cellOf w p 2 with
  | some (.slice _ n _) => n
  | _ => 0
def dkL (p hb : Nat) (most : Int) (v : Value) (ps : List Nat) (qs : List Prt) (D : Dk) (R : List Asn) : List Asn := blkA p (logC hb most v) T.wal_Log :: Eng.rowO T.p_wal_part 1 encP v ps :: zipA partA ps qs :: diskA hb D :: R
theorem log_len {most : Int} {qs : List Prt} (hl : ps.length = qs.length) (S : St w0 w (dkL p hb most v ps qs D R)) : logLen p w = qs.length := by
  unfold dkL at S
  obtain ⟨_, _, c2, _⟩ := log_cells S.blk
  obtain ⟨a, c, hv, _⟩ := (S.swap.rowO encP_len : Sl w 1 encP v ps)
  unfold logLen
  rw [c2, hv]
  exact hl
def DpI (w0 : World) (p hb : Nat) (n : Int) (L : Lg) (D : Dk) (R : List Asn) : KL := fun x w1 => ∃ (u0 u1 v : Value) (ps : List Nat) (qs : List Prt) (D' : Dk), x = [u0, u1] ∧ ps.length = qs.length ∧ qs.length ≤ 1000000 ∧ dropG n L.parts D = dropG n qs D' ∧ St w0 w1 (dkL p hb L.most v ps qs D' R)
theorem dropG_one {n : Int} {qs : List Prt} (h : ∀ (h1 : 1 < qs.length), n < qs[1].first) : dropG n qs D = ((qs, D), 0) := by
  match qs with
  | [] => rfl
  | [q] => rfl
  | q :: q2 :: r =>
    have := h (by simp)
    simp only [List.getElem_cons_succ, List.getElem_cons_zero] at this
    rw [dropG, if_neg (by omega)]
theorem drop_loop (S : St w0 w (dkL p hb L.most v ps L.parts D R)) (hl : ps.length = L.parts.length) (hfew : L.parts.length ≤ 1000000) (n : Int) {u0 u1 : Value} {K : KV}
    (h : ∀ w' v' ps', ps'.length = (dropG n L.parts D).1.1.length → St w0 w' (dkL p hb L.most v' ps' (dropG n L.parts D).1.1 (dropG n L.parts D).1.2 R) → K (.int .i64 (dropG n L.parts D).2) w') :
    loopT [u0, u1] w fun K2 x2 w => M.pwal_Log_Drop.j2 (ptr0 p) (.int .i64 n) (fun _ w => K (.int .i64 0) w) x2 K2 w K := by
  refine ⟨DpI w0 p hb n L D R, fun _ w => logLen p w, ⟨_, _, v, ps, L.parts, D, rfl, hl, hfew, rfl, S⟩, ?_⟩
  rintro x w1 ⟨t0, t1, v, ps, qs, D', rfl, hl, hfew, hdr, S1⟩
  have hmeas := log_len hl S1
  unfold dkL at S1
  unfold M.pwal_Log_Drop.j2
  obtain ⟨c0, c1, c2, _⟩ := log_cells S1.blk
  have hlen := fun w' K => rowPt_len S1.swap w' K
  simp only [ptr0]
  have stop : (∀ (h1 : 1 < qs.length), n < qs[1].first) → K (.int .i64 0) w1 := fun hst => by
    have e := dropG_one (D := D') hst
    rw [hdr, e] at h
    exact h w1 v ps hl S1
  by_cases h1 : 1 < qs.length
  · have h1' : 1 < ps.length := by omega
    have h1i : (1 : Int) < (ps.length : Int) := by omega
    obtain ⟨b, o, hia, hc⟩ := rowPt_at S1.swap (j := 1) h1'
    have hia1 : ∀ w' K, iaT P T.sl_p_wal_part v (.int .i64 1) w' K = K (.pointer (some ⟨b, o, none⟩)) w' := hia
    have cc : cellOf w1 b o = some (ptr0 ps[1]) := hc S1.swap
    obtain ⟨rv, S2⟩ := unPart (zip_at (j := 1) hl h1 S1.up2)
    obtain ⟨_, d1, _⟩ := part_cells S2.blk
    simp only [ptr0] at cc
    simp [c2, hlen, h1i, hia1, cc, d1]
    by_cases hle : qs[1].first ≤ n
    · simp [hle]
      unfold M.pwal_Log_Drop.j3
      obtain ⟨q, q2, r, rfl⟩ : ∃ q q2 r, qs = q :: q2 :: r := by
        match qs, h1 with
        | q :: q2 :: r, _ => exact ⟨q, q2, r, rfl⟩
      obtain ⟨b', o', hia', hc'⟩ := rowPt_at S1.swap (j := 0) (by omega)
      have hia0 : ∀ w' K, iaT P T.sl_p_wal_part v (.int .i64 0) w' K = K (.pointer (some ⟨b', o', none⟩)) w' := hia'
      have cc0 : cellOf w1 b' o' = some (ptr0 ps[0]) := hc' S1.swap
      obtain ⟨rv0, S3⟩ := unPart (zip_at (j := 0) hl (by simp) S1.up2)
      obtain ⟨e0, _⟩ := part_cells S3.blk
      simp only [List.getElem_cons_zero] at e0
      simp only [ptr0] at cc0
      simp [c0, c2, hia0, cc0, e0]
      refine remove_st (S1.step ((Fr.refl _ w1).dr 1)).up3 q.no fun w2 S4 => ?_
      have S5 := S4.dn3
      have hle' : q2.first ≤ n := hle
      rw [dropG, if_pos hle'] at hdr
      by_cases hk : (D'.remove q.no).2 = 0
      · rw [if_pos hk] at hdr
        rw [hk]
        simp
        unfold M.pwal_Log_Drop.j4
        obtain ⟨g0, g1, g2, gz⟩ := log_cells S5.blk
        cases ps with
        | nil => simp at h1'
        | cons p0 ps =>
          obtain ⟨v', S6, hsl⟩ := S5.swap.subO (P := P) (t := T.sl_p_wal_part) encP_len (by kernel_rfl) (by kernel_rfl) (i := 1) (by simp) (k := .i64)
          have hsl1 : ∀ w1 K, slT P T.sl_p_wal_part v (some (.int .i64 1)) none none w1 K = K v' w1 := hsl
          have S7 : St w0 w2 (Eng.rowO T.p_wal_part 1 encP v' ps :: zipA partA ps (q2 :: r) :: blkA p (logC hb L.most v) T.wal_Log :: diskA hb (D'.remove q.no).1 :: R) := (zip_tail S6.up2).swap
          obtain ⟨a', cap', hv', _⟩ := (S7.rowO encP_len : Sl w2 1 encP v' ps)
          generalize ps.length = n1 at hv'
          subst hv'
          have S8 : St w0 (w2.setCell ⟨p, 2, none⟩ (.slice a' n1 cap')) (blkA p (logC hb L.most (.slice a' n1 cap')) T.wal_Log :: _) := cellSet S7.up2 (cs' := logC hb L.most (.slice a' n1 cap')) rfl
          simp [g2, hsl1, gz]
          have hnew : St w0 (w2.setCell ⟨p, 2, none⟩ (.slice a' n1 cap')) (dkL p hb L.most (.slice a' n1 cap') ps (q2 :: r) (D'.remove q.no).1 R) := S8
          refine ⟨⟨_, _, _, ps, q2 :: r, _, rfl, by simpa using hl, by simp at hfew ⊢; omega, hdr, hnew⟩, ?_⟩
          rw [hmeas, log_len (by simpa using hl) hnew]
          simp
      · rw [if_neg hk] at hdr
        have hkd : decide ((D'.remove q.no).2 = 0) = false := decide_eq_false hk
        rw [hdr] at h
        simp [hk]
        exact h w2 v ps hl S5
    · simp [hle]
      exact stop fun _ => by omega
  · have h1i : ¬ (1 : Int) < (ps.length : Int) := by omega
    simp [c2, hlen, h1i]
    exact stop fun hx => (h1 hx).elim
theorem drop_st (S : St w0 w (logA p hb L :: diskA hb D :: R)) (hfew : L.parts.length ≤ 1000000) (n : Int) {K : KV} (h : ∀ w', St w0 w' (logA p hb (L.drop D n).1.1 :: diskA hb (L.drop D n).1.2 :: R) → K (.int .i64 (L.drop D n).2) w') : fcallT P F.pwal_Log_Drop [ptr0 p, .int .i64 n] w K := by
  obtain ⟨v, ps, hl, S1⟩ := unLog S
  rw [M.pwal_Log_Drop.fcall]
  apply M.pwal_Log_Drop.calls
  unfold M.pwal_Log_Drop
  simp only [ptr0]
  unfold Lg.drop at h
  by_cases hn : n < 0
  · rw [if_pos (.inl hn)] at h
    simp [hn]
    exact h w S
  · simp [hn]
    refine next_ok hl S1 (by omega) fun w1 f1 => ?_
    have S2 := S1.step f1
    by_cases hx : L.next < n
    · rw [if_pos (.inr hx)] at h
      simp [hx]
      exact h w1 (S.step f1)
    · rw [if_neg (by omega)] at h
      simp [hx]
      obtain ⟨c0, _⟩ := log_cells S2.blk
      simp [c0]
      refine down_st S2.up3 ?_
      cases hd : D.down with
      | true =>
        rw [hd] at h
        simp
        exact h w1 (S.step f1)
      | false =>
        rw [hd] at h
        simp
        exact drop_loop S2 hl hfew n fun w2 v' ps' hl' S3 => h w2 (mkLog (L := { L with parts := (dropG n L.parts D).1.1 }) hl' S3)
end
end Go.Proofs.Ytkjhekflgghbdaa
set_option maxRecDepth 100000
namespace Go.Proofs.Ytkjhekflgghbdaa
open Go.Eng Go.Proofs.Ytkjhekflgghbdaa.Sint
def headB (n : Int) : List Int := frameF (put64 (IntKind.u64.wrap n))
theorem headB_len (n : Int) : (headB n).length = 16 := by unfold headB; rw [frameF_len, put64_len]
def Lg.begin2 (L : Lg) (D : Dk) (rec : List Int) (no : Int) : (Lg × Dk) × Int :=
  if (D.append no (headB L.next ++ frameF rec)).2 = 0 then (({ L with parts := L.parts ++ [⟨no, L.next, [rec], (headB L.next ++ frameF rec).length⟩] }, (D.append no (headB L.next ++ frameF rec)).1), 0)
  else ((L, (D.append no (headB L.next ++ frameF rec)).1), (D.append no (headB L.next ++ frameF rec)).2)
def Lg.begin (L : Lg) (D : Dk) (rec : List Int) : (Lg × Dk) × Int := match L.parts.getLast? with
  | none => L.begin2 D rec 0
  | some q => if 63 ≤ L.parts.length then ((L, D), 9) else if (D.sync q.no).2 = 0 then L.begin2 (D.sync q.no).1 rec ((q.no + 1) % 64) else ((L, (D.sync q.no).1), (D.sync q.no).2)
def Prt.more (q : Prt) (rec : List Int) : Prt := { q with recs := q.recs ++ [rec], size := q.size + (frameF rec).length }
def Lg.append (L : Lg) (D : Dk) (rec : List Int) : (Lg × Dk) × Int :=
  if 8192 < rec.length then ((L, D), 4) else match L.parts.getLast? with
  | none => L.begin D rec
  | some q => if L.most ≤ q.size then L.begin D rec else if (D.append q.no (frameF rec)).2 = 0 then (({ L with parts := L.parts.set (L.parts.length - 1) (q.more rec) }, (D.append q.no (frameF rec)).1), 0)
    else ((L, (D.append q.no (frameF rec)).1), (D.append q.no (frameF rec)).2)
structure LgB (L : Lg) : Prop where
  few : L.parts.length ≤ 64
  rng : ∀ q ∈ L.parts, 0 ≤ q.no ∧ q.no < 64
  recs : ∀ q ∈ L.parts, q.recs.length ≤ 1000000
  size : ∀ q ∈ L.parts, 0 ≤ q.size ∧ q.size ≤ 10000000
section
variable {w0 w : World} {R : List Asn} {p hb np : Nat} {v lv fv : Value} {ps : List Nat} {L : Lg} {q : Prt} {D : Dk} {rec : List Int} {no : Int}
theorem up5 {a b c d e f : Asn} (h : St w0 w (a :: b :: c :: d :: e :: f :: R)) : St w0 w (f :: a :: b :: c :: d :: e :: R) := h.perm (List.perm_middle (l₁ := [a, b, c, d, e]))
theorem dn5 {a b c d e f : Asn} (h : St w0 w (f :: a :: b :: c :: d :: e :: R)) : St w0 w (a :: b :: c :: d :: e :: f :: R) := h.perm (List.perm_middle (l₁ := [a, b, c, d, e])).symm
theorem up6 {a b c d e f g : Asn} (h : St w0 w (a :: b :: c :: d :: e :: f :: g :: R)) : St w0 w (g :: a :: b :: c :: d :: e :: f :: R) := h.perm (List.perm_middle (l₁ := [a, b, c, d, e, f]))
theorem dn6 {a b c d e f g : Asn} (h : St w0 w (g :: a :: b :: c :: d :: e :: f :: R)) : St w0 w (a :: b :: c :: d :: e :: f :: g :: R) := h.perm (List.perm_middle (l₁ := [a, b, c, d, e, f])).symm
theorem addBlk (S : St w0 w R) (cs : Array Value) (e : TypeId) : St w0 (w.alloc (.cells cs e)) (blkA w.heap.size cs e :: R) := S.add ((Fr.refl _ w).alloc _) (B := fun x => x = w.heap.size) ⟨by rw [alloc_heap, if_pos rfl], rfl⟩ fun x hx => by subst hx; rw [alloc_size]; omega
theorem list_one {s : SV} {d : List Int} (S : St w0 w (rowB s.v d :: R)) {K : KV} (h : ∀ w' s', St w0 w' (listA (SV.v s') [d] :: R) → K s'.v w') : bsT P T.sl_sl_uint8 1 #[(0, s.v)] w K := by
  have hbs : ∀ K', bsT P T.sl_sl_uint8 1 #[(0, s.v)] w K' = K' (.slice (some ⟨w.heap.size, 0, none⟩) 1 1) (w.alloc (.cells #[s.v] T.sl_uint8)) := fun K' => by unfold SV.v; simp
  rw [hbs]
  have S2 : St w0 (w.alloc (.cells #[s.v] T.sl_uint8)) (rowA T.sl_uint8 1 encSV (.slice (some ⟨w.heap.size, 0, none⟩) 1 1) [s] :: rowB s.v d :: R) := St.newRow (l := [s]) S encSV_len rfl (by unfold maxLen; simp)
  have T1 : St w0 (w.alloc (.cells #[s.v] T.sl_uint8)) (allA (rowsB [s] [d]) :: Eng.rowO T.sl_uint8 1 encSV (.slice (some ⟨w.heap.size, 0, none⟩) 1 1) [s] :: R) := St.all.2 S2.off.swap
  exact h _ ⟨some ⟨w.heap.size, 0, none⟩, 1, 1⟩ (mkList (vs := [s]) rfl T1.swap)
theorem list_sv {ls : List (List Int)} (S : St w0 w (listA lv ls :: R)) : ∃ s : SV, lv = s.v := by
  obtain ⟨a, c, hv⟩ := list_form S
  exact ⟨⟨a, _, c⟩, hv⟩
theorem row_form {l : List Int} (S : St w0 w (rowB v l :: R)) (w' : World) (K : KV) : biT P .len #[T.sl_uint8] T.int [false] [v] w' K = K (.int .i64 l.length) w' := (S.row encB_len : SlB w v l).len_ok (by kernel_rfl) [false]
def bgL (np p hb : Nat) (lv : Value) (no : Int) (rec : List Int) (v : Value) (ps : List Nat) (L : Lg) (D : Dk) (R : List Asn) : List Asn :=
  blkA np (partC ⟨no, L.next, [rec], 0⟩ lv) T.wal_part :: listA lv [rec] :: blkA p (logC hb L.most v) T.wal_Log :: Eng.rowO T.p_wal_part 1 encP v ps :: zipA partA ps L.parts :: diskA hb D :: R
theorem push_part (hl : ps.length = L.parts.length) (hb64 : L.parts.length ≤ 1000000) (S : St w0 w (partA np q :: blkA p (logC hb L.most v) T.wal_Log :: Eng.rowO T.p_wal_part 1 encP v ps :: zipA partA ps L.parts :: R)) {Q : World → Prop} (h : ∀ w', St w0 w' (logA p hb { L with parts := L.parts ++ [q] } :: R) → Q w') :
    ld1 P p 2 w fun t87 w => biT P .append #[T.sl_p_wal_part, T.sl_p_wal_part] T.sl_p_wal_part [false, false] [t87, .slice (some ⟨w.heap.size, 0, none⟩) 1 1] (w.alloc (.cells #[.pointer (some ⟨np, 0, none⟩)] T.p_wal_part)) fun t90 w => stT P T.sl_p_wal_part (.pointer (some ⟨p, 2, none⟩)) t90 w fun _ w => Q w := by
  obtain ⟨_, _, c2, _⟩ := log_cells S.swap.blk
  have S1 := (zip_snoc hl S.up3.swap).up2
  simp [c2]
  have S2 : St w0 (w.alloc (.cells #[.pointer (some ⟨np, 0, none⟩)] T.p_wal_part)) (rowA T.p_wal_part 1 encP (.slice (some ⟨w.heap.size, 0, none⟩) 1 1) [np] :: _) := St.newRow (l := [np]) S1 encP_len rfl (by unfold maxLen; simp)
  refine moreRowO et.sl_p_wal_part encP_len encP_one S2.swap (S2.row encP_len) (by simp; omega) (by decide) fun w2 v2 S3 => ?_
  have S4 := S3.swap.drop
  obtain ⟨a', cap', hv', _⟩ := (S4.rowO encP_len : Sl w2 1 encP v2 (ps ++ [np]))
  generalize hln : (ps ++ [np]).length = n1 at hv'
  subst hv'
  obtain ⟨_, _, g2, gz⟩ := log_cells S4.up2.blk
  simp [gz, g2]
  have S5 := cellSet (cs' := logC hb L.most (.slice a' n1 cap')) (i := 2) (u := .slice a' n1 cap') S4.up2 rfl
  exact h _ (mkLog (L := { L with parts := L.parts ++ [q] }) (by simp [hl]) S5)
theorem begin2_st (S : St w0 w (bgL np p hb lv no rec v ps L D R)) (hl : ps.length = L.parts.length) (hb64 : L.parts.length ≤ 1000000) (hrec : rec.length ≤ 8192) (hfs : ∀ w' L', St w0 w' (L' ++ R) → SlB w' fv (frameF rec)) {x0 : List Value} {K : KV}
    (h : ∀ w', St w0 w' (logA p hb (L.begin2 D rec no).1.1 :: diskA hb (L.begin2 D rec no).1.2 :: R) → K (.int .i64 (L.begin2 D rec no).2) w') : M.pwal_Log_begin.j0 (ptr0 np) fv (ptr0 p) x0 w K := by
  unfold bgL at S
  unfold M.pwal_Log_begin.j0
  obtain ⟨d0, d1, d2, d3, dz⟩ := part_cells S.blk
  simp only [ptr0]
  simp [d1]
  refine put64_st (nilRow S) (by simp) _ fun w1 v1 S1 => ?_
  refine fput_st S1 (v0 := .slice none 0 0) (l0 := []) (fun _ _ _ => Sl.nil) (fun w' L' S' => (S'.perm List.perm_middle).row encB_len) (by simp) (by simp [put64_len]) fun w2 v2 S2 => ?_
  have e : (if 8192 < ([] ++ put64 (IntKind.u64.wrap L.next)).length then [] else [] ++ frameF ([] ++ put64 (IntKind.u64.wrap L.next))) = headB L.next := by
    rw [List.nil_append, List.nil_append, put64_len, if_neg (by decide)]; rfl
  rw [e] at S2
  simp
  have hF : SlB w2 fv (frameF rec) := hfs w2 (rowB v2 (headB L.next) :: rowB v1 ([] ++ put64 (IntKind.u64.wrap L.next)) :: [_, _, _, _, _, _]) S2
  refine join2_st S2 (S2.row encB_len) hF (by rw [headB_len, frameF_len]; omega) fun w3 v3 S3 => ?_
  have S4 := S3.swap.drop.swap.drop
  unfold Lg.begin2 at h
  have hcl : (headB L.next ++ frameF rec).length ≤ 1000000 := by rw [List.length_append, headB_len, frameF_len]; omega
  generalize headB L.next ++ frameF rec = ct at *
  obtain ⟨c0, c1, c2, cz⟩ := log_cells S4.up3.blk
  obtain ⟨d0, d1, d2, d3, dz⟩ := part_cells S4.swap.blk
  simp [c0, d0]
  refine append_st (up6 (S4.step ((Fr.refl _ w3).dr 1))) no (l := ct) (fun w' L' S' => (S'.perm List.perm_middle).row encB_len) (by omega) fun w4 S5 => ?_
  have S6 := dn6 S5
  by_cases hk : (D.append no ct).2 = 0
  · rw [if_pos hk] at h
    rw [hk]
    simp
    unfold M.pwal_Log_begin.j3
    have hlen := fun w' K => row_form S6 w' K
    obtain ⟨e0, e1, e2, e3, ez⟩ := part_cells S6.swap.blk
    simp [hlen, ez, e3]
    have S7 := (cellSet (cs' := partC ⟨no, L.next, [rec], ct.length⟩ lv) (i := 3) (u := .int .i64 ct.length) S6.swap rfl).swap.drop
    exact push_part hl hb64 (mkPart S7) h
  · rw [if_neg hk] at h
    simp [hk]
    exact h w4 (mkLog hl S6.drop.drop.drop)
end
end Go.Proofs.Ytkjhekflgghbdaa
set_option maxRecDepth 100000
namespace Go.Proofs.Ytkjhekflgghbdaa
open Go.Eng Go.Proofs.Ytkjhekflgghbdaa.Sint
section
variable {w0 w : World} {R : List Asn} {p hb np : Nat} {v lv fv av : Value} {ps : List Nat} {L : Lg} {q : Prt} {D : Dk} {rec : List Int} {no : Int}
theorem last_q (hl : ps.length = L.parts.length) (hp : 0 < ps.length) : L.parts.getLast? = some (L.parts[ps.length - 1]'(by omega)) := by rw [getLast_idx (by omega)]; simp only [hl]
theorem begin_st (S : St w0 w (blkA p (logC hb L.most v) T.wal_Log :: Eng.rowO T.p_wal_part 1 encP v ps :: zipA partA ps L.parts :: diskA hb D :: R)) (hl : ps.length = L.parts.length) (hB : LgB L) (hrec : rec.length ≤ 8192) (hbs : ∀ w' L', St w0 w' (L' ++ R) → SlB w' av rec) (hfs : ∀ w' L', St w0 w' (L' ++ R) → SlB w' fv (frameF rec)) {K : KV}
    (h : ∀ w', St w0 w' (logA p hb (L.begin D rec).1.1 :: diskA hb (L.begin D rec).1.2 :: R) → K (.int .i64 (L.begin D rec).2) w') : fcallT P F.pwal_Log_begin [ptr0 p, av, fv] w K := by
  rw [M.pwal_Log_begin.fcall]
  apply M.pwal_Log_begin.calls
  unfold M.pwal_Log_begin
  have hfew := hB.few
  refine next_ok hl S (by omega) fun w1 f1 => ?_
  have S1 := S.step f1
  refine cloneB_st S1 (hbs w1 [_, _, _, _] S1) (by omega) fun w2 v2 S2 => ?_
  obtain ⟨s, rfl⟩ := row_sv S2
  refine list_one S2 fun w3 s3 S3 => ?_
  simp only [SV.v]
  simp
  have S4 : St w0 _ (bgL w3.heap.size p hb s3.v 0 rec v ps L D R) := addBlk S3 (partC ⟨0, L.next, [rec], 0⟩ s3.v) T.wal_part
  generalize hnp : w3.heap.size = np at *
  simp only [partC, SV.v] at S4
  generalize w3.alloc (.cells #[.int .i64 0, .int .i64 L.next, .slice s3.a s3.n s3.c, .int .i64 0] T.wal_part) = w4 at *
  have S5 : St w0 w4 (blkA p (logC hb L.most v) T.wal_Log :: Eng.rowO T.p_wal_part 1 encP v ps :: blkA np (partC ⟨0, L.next, [rec], 0⟩ s3.v) T.wal_part :: listA s3.v [rec] :: zipA partA ps L.parts :: diskA hb D :: R) := St.up3 (St.up3 S4)
  refine last_ok hl S5 (by omega) (fun hz => ?_) fun hp w5 f5 => ?_
  · simp
    have : L.parts = [] := List.length_eq_zero_iff.1 (by rw [← hl, hz]; rfl)
    unfold Lg.begin at h
    rw [this] at h
    exact begin2_st S4 hl (by omega) hrec hfs h
  · simp only [ptr0]
    simp
    have S6 := S5.step f5
    obtain ⟨c0, c1, c2, cz⟩ := log_cells S6.blk
    have hlen := fun w' K => rowPt_len S6.swap w' K
    have hgl := last_q hl hp
    have hj : ps.length - 1 < L.parts.length := by omega
    have hqr := hB.rng _ (List.getElem_mem hj)
    unfold Lg.begin at h
    rw [hgl] at h
    simp only at h
    simp [c2, hlen]
    by_cases h63 : 63 ≤ L.parts.length
    · have h63i : (63 : Int) ≤ (ps.length : Int) := by omega
      rw [if_pos h63] at h
      simp [h63i]
      exact h w5 (mkLog hl S6.up2.drop.up2.drop)
    · have h63i : ¬ (63 : Int) ≤ (ps.length : Int) := by omega
      rw [if_neg h63] at h
      simp [h63i]
      unfold M.pwal_Log_begin.j1
      obtain ⟨rv, T1⟩ := unPart (zip_at hl hj S6.up4)
      obtain ⟨d0, _⟩ := part_cells T1.blk
      simp [c0, d0]
      refine sync_st (up5 (S6.step ((Fr.refl _ w5).dr 1))) _ fun w6 S7 => ?_
      have S8 := dn5 S7
      generalize hqq : L.parts[ps.length - 1] = q at *
      by_cases hk : (D.sync q.no).2 = 0
      · rw [if_pos hk] at h
        rw [hk]
        simp
        unfold M.pwal_Log_begin.j2
        obtain ⟨rv2, T2⟩ := unPart (zip_at hl hj S8.up4)
        rw [hqq] at T2
        obtain ⟨e0, _⟩ := part_cells T2.blk
        obtain ⟨_, _, _, _, nz⟩ := part_cells S8.up2.blk
        obtain ⟨n0, _⟩ := part_cells S8.up2.blk
        have hw : IntKind.i64.wrap (q.no + 1) = q.no + 1 := wrap_id (by omega) (by omega)
        simp [e0, hw, bin_rem, nz, n0]
        have S9 := cellSet (cs' := partC ⟨(q.no + 1) % 64, L.next, [rec], 0⟩ s3.v) (i := 0) (u := .int .i64 ((q.no + 1) % 64)) S8.up2 rfl
        have et : (q.no + 1).tmod 64 = (q.no + 1) % 64 := by rw [Int.tmod_eq_emod_of_nonneg (by omega)]
        rw [et]
        exact begin2_st (St.swap S9.up3) hl (by omega) hrec hfs h
      · rw [if_neg hk] at h
        simp [hk]
        exact h w6 (mkLog hl S8.up2.drop.up2.drop)
theorem list_push' {s : SV} {d : List Int} {ls : List (List Int)} (S : St w0 w (rowB s.v d :: listA v ls :: R)) (hl : ls.length ≤ 1000000) {cs : List Bool} {ty : TypeId} {K : KV} (h : ∀ w' v', St w0 w' (listA v' (ls ++ [d]) :: R) → K v' w') :
    biT P .append #[T.sl_sl_uint8, T.sl_sl_uint8] ty cs [v, .slice (some ⟨w.heap.size, 0, none⟩) 1 1] (w.alloc (.cells #[s.v] T.sl_uint8)) K := by
  have hbs : ∀ K', bsT P T.sl_sl_uint8 1 #[(0, s.v)] w K' = K' (.slice (some ⟨w.heap.size, 0, none⟩) 1 1) (w.alloc (.cells #[s.v] T.sl_uint8)) := fun K' => by unfold SV.v; simp
  have := list_push S hl (cs := cs) (ty := ty) h
  rwa [hbs] at this
theorem lappend_st (S : St w0 w (logA p hb L :: diskA hb D :: R)) (hB : LgB L) (hrl : rec.length ≤ 1000000) (hbs : ∀ w' L', St w0 w' (L' ++ R) → SlB w' av rec) {K : KV}
    (h : ∀ w', St w0 w' (logA p hb (L.append D rec).1.1 :: diskA hb (L.append D rec).1.2 :: R) → K (.int .i64 (L.append D rec).2) w') : fcallT P F.pwal_Log_Append [ptr0 p, av] w K := by
  obtain ⟨v, ps, hl, S1⟩ := unLog S
  rw [M.pwal_Log_Append.fcall]
  apply M.pwal_Log_Append.calls
  unfold M.pwal_Log_Append
  have hfew := hB.few
  simp only [ptr0]
  simp
  unfold M.pwal_Log_Append.j0
  refine fput_st S1 (v0 := .slice none 0 0) (l0 := []) (fun _ _ _ => Sl.nil) (fun w' L' S' => hbs w' (L' ++ [_, _, _, _]) (by simpa using S')) (by simp) (by omega) fun w2 v2 S2 => ?_
  unfold Lg.append at h
  by_cases hbig : 8192 < rec.length
  · rw [if_pos hbig] at h
    simp [hbig]
    exact h w2 (mkLog hl S2.drop)
  · rw [if_neg hbig, List.nil_append] at S2
    rw [if_neg hbig] at h
    simp [hbig]
    unfold M.pwal_Log_Append.j1
    have S3 : St w0 w2 (blkA p (logC hb L.most v) T.wal_Log :: Eng.rowO T.p_wal_part 1 encP v ps :: zipA partA ps L.parts :: diskA hb D :: rowB v2 (frameF rec) :: R) := S2.dn4
    have hbs3 : ∀ w' L', St w0 w' (L' ++ rowB v2 (frameF rec) :: R) → SlB w' av rec := fun w' L' S' => hbs w' (L' ++ [rowB v2 (frameF rec)]) (by simpa using S')
    have hfs3 : ∀ w' L', St w0 w' (L' ++ rowB v2 (frameF rec) :: R) → SlB w' v2 (frameF rec) := fun w' L' S' => (S'.perm List.perm_middle).row encB_len
    refine last_ok hl S3 (by omega) (fun hz => ?_) fun hp w3 f3 => ?_
    · have : L.parts = [] := List.length_eq_zero_iff.1 (by rw [← hl, hz]; rfl)
      rw [this] at h
      simp
      exact begin_st (S3.step ((Fr.refl _ w2).dr 1)) hl hB (by omega) hbs3 hfs3 fun w4 S4 => h w4 S4.up2.drop
    · simp only [ptr0]
      have S4 := S3.step f3
      have hgl := last_q hl hp
      have hj : ps.length - 1 < L.parts.length := by omega
      have hqs := hB.size _ (List.getElem_mem hj)
      have hqr := hB.recs _ (List.getElem_mem hj)
      rw [hgl] at h
      simp only at h
      obtain ⟨c0, c1, c2, cz⟩ := log_cells S4.blk
      obtain ⟨rv, T1⟩ := unPart (zip_at hl hj S4.up2)
      obtain ⟨d0, d1, d2, d3, dz⟩ := part_cells T1.blk
      simp [c1, d3]
      by_cases hm : L.most ≤ L.parts[ps.length - 1].size
      · rw [if_pos hm] at h
        simp [hm]
        exact begin_st (S4.step ((Fr.refl _ w3).dr 1)) hl hB (by omega) hbs3 hfs3 fun w4 S5 => h w4 S5.up2.drop
      · rw [if_neg hm] at h
        simp [hm]
        unfold M.pwal_Log_Append.j2
        simp [c0, d0]
        refine append_st (S4.step (((Fr.refl _ w3).dr 1).dr 1)).up3 _ (fun w' L' S' => hfs3 w' (L' ++ [_, _, _]) (by simpa using S')) (by rw [frameF_len]; omega) fun w4 S5 => ?_
        have S6 := S5.dn3
        generalize hqq : L.parts[ps.length - 1] = q at *
        by_cases hk : (D.append q.no (frameF rec)).2 = 0
        · rw [if_pos hk] at h
          rw [hk]
          simp
          unfold M.pwal_Log_Append.j3
          obtain ⟨rv2, T2⟩ := unPart (zip_at hl hj S6.up2)
          rw [hqq] at T2
          obtain ⟨e0, e1, e2, e3, ez⟩ := part_cells T2.blk
          have hlen := fun w' K => row_form (v := v2) (l := frameF rec) (T2.perm (List.perm_middle (l₁ := [_, _, _, _, _, _]))) w' K
          simp [e2, e3, hlen]
          have hbs4 : SlB (dr w4 1) av rec := hbs3 _ (blkA ps[ps.length - 1] (partC q rv2) T.wal_part :: listA rv2 q.recs :: zipR partA ps L.parts (ps.length - 1) :: blkA p (logC hb L.most v) T.wal_Log :: Eng.rowO T.p_wal_part 1 encP v ps :: [diskA hb (D.append q.no (frameF rec)).1]) (T2.step ((Fr.refl _ w4).dr 1))
          refine cloneB_st (T2.step ((Fr.refl _ w4).dr 1)) hbs4 (by omega) fun w5 v5 T3 => ?_
          obtain ⟨s, rfl⟩ := row_sv T3
          obtain ⟨_, _, e2, e3, _⟩ := part_cells T3.swap.blk
          have T4 := T3.step ((Fr.refl _ w5).alloc (.cells #[s.v] T.sl_uint8))
          obtain ⟨_, _, g2, g3, _⟩ := part_cells T4.swap.blk
          refine ⟨by simp [e3], by simp [e2], ?_⟩
          have hbs5 : ∀ K', bsT P T.sl_sl_uint8 1 #[(0, s.v)] w5 K' = K' (.slice (some ⟨w5.heap.size, 0, none⟩) 1 1) (w5.alloc (.cells #[s.v] T.sl_uint8)) := fun K' => by unfold SV.v; simp
          rw [hbs5]
          refine ⟨by simp [g3], by simp [g2], ?_⟩
          refine list_push' (T3.perm (.cons _ (.swap _ _ _))) (by omega) fun w6 v6 T5 => ?_
          obtain ⟨s6, rfl⟩ := list_sv T5
          obtain ⟨_, _, m2, m3, mz⟩ := part_cells T5.swap.blk
          refine ⟨by simp [m3], ?_⟩
          have T6 := cellSet (cs' := partC { q with recs := q.recs ++ [rec] } s6.v) (i := 2) (u := s6.v) T5.swap rfl
          obtain ⟨_, _, n2, n3, nz⟩ := part_cells T6.blk
          have T7 := cellSet (cs' := partC (q.more rec) s6.v) (i := 3) (u := .int .i64 (q.size + (frameF rec).length)) T6 rfl
          have hw : IntKind.i64.wrap (q.size + ((frameF rec).length : Int)) = q.size + (frameF rec).length := wrap_id (by omega) (by rw [frameF_len]; omega)
          simp only [SV.v] at *
          simp [hw, m2, mz, n3, nz]
          have T8 := zip_set hl hj (mkPart (q := q.more rec) T7)
          have hl' : ps.length = (L.parts.set (ps.length - 1) (q.more rec)).length := by simpa using hl
          have T9 := mkLog (L := { L with parts := L.parts.set (ps.length - 1) (q.more rec) }) hl' T8.dn2
          have hl3 : L.parts.length - 1 = ps.length - 1 := by omega
          rw [hl3] at h
          exact h _ T9.up2.drop
        · rw [if_neg hk] at h
          simp [hk]
          exact h w4 (mkLog hl S6).up2.drop
end
end Go.Proofs.Ytkjhekflgghbdaa
set_option maxRecDepth 100000
namespace Go.Proofs.Ytkjhekflgghbdaa.CI
open Go.Eng Go.Proofs.Ytkjhekflgghbdaa.Sint
theorem encL_one (x : Int) : ∀ u ∈ encL x, oneC u = true := fun u hu => by simp at hu; subst hu; rfl

theorem grow_ok {w : World} {n : Nat} (hn : n ≤ 1000000000) {K : KV} (h : ∀ w' v, Ow w' w.heap.size T.int 1 encL v [] → Fr (fun _ => False) w w' → K v w') :
    callT P F.slices_Grow_int_int [.slice none 0 0, .int .i64 n] w K := by
  apply M.slices_Grow_int_int.calls
  unfold M.slices_Grow_int_int
  have hneg : ¬ (n : Int) < 0 := by omega
  simp [hneg]
  unfold M.slices_Grow_int_int.j0
  have hsl : isSlB P T.sl_int = true := by kernel_rfl
  have w0 : IntKind.i64.wrap 0 = 0 := by decide
  have wn : IntKind.i64.wrap (n : Int) = n := wrap_id (by omega) (by omega)
  rw [joinT_eq, cap_sl hsl, len_sl hsl]
  simp only [bin_sub, bin_gtr]
  have e1 : IntKind.i64.wrap ((n : Int) - IntKind.i64.wrap (((0 : Nat) : Int) - ((0 : Nat) : Int))) = n := by
    rw [show ((0 : Nat) : Int) - ((0 : Nat) : Int) = 0 from by omega, w0, Int.sub_zero, wn]
  rw [e1]
  by_cases h0 : 0 < n
  · have h0' : (0 : Int) < n := by omega
    simp only [h0', decide_true, Eng.cond_true]
    rw [cap_sl hsl, sl_gen (i := 0) (j := 0) hsl (.inl ⟨rfl, rfl⟩) (.inr ⟨.i64, rfl⟩) (Nat.le_refl _) (Nat.le_refl _)]
    refine app_mk (enc := encL) et.sl_int (kn := .i64) (by kernel_rfl) h0 hn (by decide) _ fun w' cap hc o f => ?_
    rw [len_sl hsl, sl_gen (i := 0) (j := 0) hsl (.inl ⟨rfl, rfl⟩) (.inr ⟨.i64, rfl⟩) (Nat.le_refl _) (Nat.zero_le _)]
    rw [if_neg (by omega)]
    have := h w' _ o f
    simpa [Addr.add, gv] using this
  · have h0' : ¬ (0 : Int) < n := by omega
    simp only [h0', decide_false, Eng.cond_false]
    exact h w _ Ow.none (Fr.refl _ _)

abbrev Sls (w : World) (v : Value) (l : List Int) : Prop := Sl w 1 encL v l
abbrev Ows (w : World) (base : Nat) (v : Value) (l : List Int) : Prop := Ow w base T.int 1 encL v l
def tot (L : List (Value × List Int)) : Nat := (L.map fun p => p.2.length).sum
theorem tot_take {L : List (Value × List Int)} {i : Nat} (hi : i < L.length) : tot (L.take (i + 1)) = tot (L.take i) + L[i].2.length := by
  unfold tot
  rw [List.take_succ_eq_append_getElem hi, List.map_append, List.sum_append]; simp
theorem tot_le {L : List (Value × List Int)} (i : Nat) : tot (L.take i) ≤ tot L := by
  unfold tot
  conv => rhs; rw [← List.take_append_drop i L, List.map_append, List.sum_append]
  omega
theorem flat_len (L : List (Value × List Int)) : (L.flatMap (·.2)).length = tot L := by
  unfold tot
  induction L with
  | nil => rfl
  | cons p L ih => simp [ih]
def CaI (w : World) (L : List (Value × List Int)) : KL := fun x w1 => ∃ (u : Value) (i : Nat), x = [u, .int .i64 (tot (L.take i) : Nat), .int .i64 (i : Nat)] ∧ w1 = w ∧ i ≤ L.length
def CbI (w : World) (L : List (Value × List Int)) : KL := fun x w1 => ∃ (u v : Value) (i : Nat), x = [u, v, .int .i64 (i : Nat)] ∧ i ≤ L.length ∧ Fr (fun _ => False) w w1 ∧ Ows w1 w.heap.size v ((L.take i).flatMap (·.2))
theorem concat_ok {w : World} {b cap : Nat} {L : List (Value × List Int)} {e : TypeId} (hb : w.heap[b]? = some (.cells (L.map (·.1)).toArray e (0, 0))) (hs : ∀ p ∈ L, Sls w p.1 p.2) (ht : tot L ≤ 100000000) (hL : L.length ≤ 1000) {K : KV}
    (h : ∀ w' v, Ows w' w.heap.size v (L.flatMap (·.2)) → Fr (fun _ => False) w w' → K v w') : callT P F.slices_Concat_int_int [.slice (some ⟨b, 0, none⟩) L.length cap] w K := by
  apply M.slices_Concat_int_int.calls
  unfold M.slices_Concat_int_int
  have hss : isSlB P T.sl_sl_int = true := by kernel_rfl
  have hsl : isSlB P T.sl_int = true := by kernel_rfl
  have q0 : ∀ a b c : Value, gv [a, b, c] 0 = a := fun _ _ _ => rfl
  have q1 : ∀ a b c : Value, gv [a, b, c] 1 = b := fun _ _ _ => rfl
  have q2 : ∀ a b c : Value, gv [a, b, c] 2 = c := fun _ _ _ => rfl
  have q4 : ∀ a b c d e : Value, gv [a, b, c, d, e] 4 = e := fun _ _ _ _ _ => rfl
  have cell : ∀ (w' : World), Fr (fun _ => False) w w' → ∀ (i : Nat) (hi : i < L.length), cellOf w' b i = some L[i].1 := fun w' f i hi => by
    rw [cellOf_of (f.heap hb fun h => h)]
    simp [hi]
  rw [joinT_eq, len_sl hss]
  refine ⟨CaI w L, fun x _ => L.length - ms x 2, ⟨_, 0, rfl, rfl, Nat.zero_le _⟩, ?_⟩
  rintro x w1 ⟨u, i, rfl, rfl, hi⟩
  simp only [q0, q1, q2, bin_lss, joinT_eq]
  by_cases hil : i < L.length
  · have hil' : (i : Int) < L.length := by omega
    simp only [hil', decide_true, Eng.cond_true]
    unfold M.slices_Concat_int_int.j2
    have hwi : IntKind.i64.wrap ((i : Int) + 1) = ((i + 1 : Nat) : Int) := by rw [wrap_id (by omega) (by omega)]; rfl
    have c0 := cell w1 (Fr.refl _ _) i hil
    have hsi := hs L[i] (List.getElem_mem hil)
    obtain ⟨a', cap', hv', _⟩ := hsi
    have htt := tot_take hil
    have hle := tot_le (L := L) (i + 1)
    have hwt : IntKind.i64.wrap ((tot (L.take i) : Int) + (L[i].2.length : Int)) = ((tot (L.take (i + 1)) : Nat) : Int) := by rw [wrap_id (by omega) (by omega)]; omega
    have hng : ¬ ((tot (L.take (i + 1)) : Nat) : Int) < 0 := by omega
    simp only [q0, q1, q2, joinT_eq]
    simp [hil, c0, hv', hwt, hwi, -Int.natCast_add]
    refine ⟨⟨_, i + 1, rfl, rfl, by omega⟩, ?_⟩
    simp [ms, gv]; omega
  · have hie : i = L.length := by omega
    have hil' : ¬ (i : Int) < L.length := by omega
    simp only [hil', decide_false, Eng.cond_false]
    have htk : L.take i = L := List.take_of_length_le (by omega)
    rw [htk]
    unfold M.slices_Concat_int_int.j0
    simp only [q4]
    rw [M.slices_Grow_int_int.fcall]
    refine grow_ok (by omega) fun w2 v2 o2 f2 => ?_
    rw [joinT_eq, len_sl hss]
    refine ⟨CbI w1 L, fun x _ => L.length - ms x 2, ⟨_, v2, 0, rfl, Nat.zero_le _, f2, o2⟩, ?_⟩
    rintro x w3 ⟨u', v, j, rfl, hj, f3, o3⟩
    simp only [q0, q1, q2, bin_lss, joinT_eq]
    by_cases hjl : j < L.length
    · have hjl' : (j : Int) < L.length := by omega
      simp only [hjl', decide_true, Eng.cond_true]
      unfold M.slices_Concat_int_int.j6
      have hwj : IntKind.i64.wrap ((j : Int) + 1) = ((j + 1 : Nat) : Int) := by rw [wrap_id (by omega) (by omega)]; rfl
      have c0 := cell w3 f3 j hjl
      have hsj := (hs L[j] (List.getElem_mem hjl)).fr f3 fun _ _ _ h => h
      have hl1 : ((L.take j).flatMap (·.2)).length = tot (L.take j) := flat_len _
      have htt := tot_take hjl
      have hle := tot_le (L := L) (j + 1)
      simp only [q0, q1, q2, joinT_eq]
      simp [hjl, c0, -List.length_flatMap]
      have hge := f3.size
      refine app_sl et.sl_int encL_len encL_one o3 hsj (by rw [hl1]; omega) (by decide) hge _ fun v' w4 o4 f4 g4 => ?_
      simp only [hwj]
      refine ⟨⟨_, v', j + 1, rfl, by omega, f3.trans' f4 fun x hx he => by have := (o3.lt he).1; omega, ?_⟩, ?_⟩
      · rw [List.take_succ_eq_append_getElem hjl, List.flatMap_append]
        simpa using o4
      · simp [ms, gv]; omega
    · have hjl' : ¬ (j : Int) < L.length := by omega
      simp only [hjl', decide_false, Eng.cond_false, q4]
      have htj : L.take j = L := List.take_of_length_le (by omega)
      rw [htj] at o3
      exact h w3 v o3 f3
end Go.Proofs.Ytkjhekflgghbdaa.CI
