/-
  The order of a log's files. No condition.
  One of a log's files, loaded. No condition.
  A log that is opened. No condition.
  A log on a disk, in plain Lean: what lies in its files. No condition.
  A log on a disk, in plain Lean: parts in a chain, what is appended, synced, and what a crash leaves. No condition.
  A log on a disk, in plain Lean: what an Append leaves. No condition.
  A log's files in the order of their numbers, which go round. No condition.
  A log on a disk, in plain Lean: what Open finds. No condition.
  A log on a disk, in plain Lean: Open. No condition.
  A log: the example that the statements hold up, in plain Lean. No condition.
  Lists of bytes that are read, and whether two are the same. No condition.
  A log: the example that the statements hold up. No condition.
  A log on a disk: what its parts' sizes stand against. No condition.
  A log whose last file is cut off (WalTorn): the walk. No condition.
  WalFiles: the walk. No condition.
  WalDrops: what Drop leaves, in plain Lean; the walk. No condition.
  WalPrefix: operations, a list that grows by others' bytes. No condition.
  WalPrefix: the walk. No condition.
-/
import Derived.Test.YtkjhekflgghbdaaZDsk2
set_option maxRecDepth 100000
namespace Go.Proofs.Ytkjhekflgghbdaa
open Go.Eng Go.Proofs.Ytkjhekflgghbdaa.Sint
def orderG (ns : List Int) : Nat → Nat → List Int
  | 0, _ => ns
  | f + 1, i => match ns[i]? with
    | none => ns
    | some n => if 0 < i ∧ (n + 63) % 64 ∉ ns then ns.drop i ++ ns.take i else orderG ns f (i + 1)
def orderF (ns : List Int) : List Int := orderG ns ns.length 0
section
variable {w0 w : World} {R : List Asn} {v : Value} {ns : List Int}
abbrev SlI (w : World) (v : Value) (l : List Int) : Prop := Sl w 1 encL v l
def IxI (w0 : World) (ns : List Int) (x : Int) : KL := fun y w1 => ∃ (u0 u1 : Value) (i : Nat), y = [u0, u1, .int .i64 (i : Nat)] ∧ i ≤ ns.length ∧ w1 = w0 ∧ x ∉ ns.take i
theorem has_int (hs : SlI w v ns) (hl : ns.length ≤ 1000000) (x : Int) {K : KV} (h : K (.bool (decide (x ∈ ns))) w) : fcallT P F.slices_Contains_int_int [v, .int .i64 x] w K := by
  rw [M.slices_Contains_int_int.fcall]
  apply M.slices_Contains_int_int.calls
  unfold M.slices_Contains_int_int
  rw [M.slices_Index_int_int.fcall]
  apply M.slices_Index_int_int.calls
  unfold M.slices_Index_int_int
  have hlen : ∀ w' K, biT P .len #[T.sl_int] T.int [false] [v] w' K = K (.int .i64 ns.length) w' := fun w' K => hs.len_ok (by kernel_rfl) [false]
  simp [hlen]
  refine ⟨IxI w ns x, fun y _ => ns.length - ms y 2, ⟨_, _, 0, rfl, Nat.zero_le _, rfl, by simp⟩, ?_⟩
  rintro y w1 ⟨u0, u1, i, rfl, hi, rfl, hn⟩
  by_cases hlt : i < ns.length
  · have hlti : (i : Int) < (ns.length : Int) := by omega
    obtain ⟨b, o, cap, hv, _, _, hc⟩ := hs.at hlt
    have c0 := hc 0 _ rfl
    simp only [Nat.mul_one, Nat.add_zero] at c0
    have hia : ∀ w' K, iaT P T.sl_int v (.int .i64 (i : Nat)) w' K = K (.pointer (some ⟨b, o + i, none⟩)) w' := fun w' K => by rw [hv]; simp [hlt]
    simp [hlti]
    unfold M.slices_Index_int_int.j2
    simp [hia, c0]
    by_cases hx : ns[i] = x
    · have hin : x ∈ ns := hx ▸ List.getElem_mem hlt
      have hge : (0 : Int) ≤ (i : Int) := by omega
      simp [hx]
      simpa [hin, hge] using h
    · have hx' : ¬ x = ns[i] := fun h => hx h.symm
      simp [hx']
      have hw : IntKind.i64.wrap ((i : Int) + 1) = ((i + 1 : Nat) : Int) := by rw [wrap_id (by omega) (by omega)]; omega
      rw [hw]
      refine ⟨⟨_, _, i + 1, rfl, hlt, rfl, ?_⟩, ?_⟩
      · rw [List.take_succ_eq_append_getElem hlt, List.mem_append, List.mem_singleton]
        exact fun h => h.elim hn hx'
      · simp [ms, gv]; omega
  · have hge : ¬ (i : Int) < (ns.length : Int) := by omega
    rw [List.take_of_length_le (by omega)] at hn
    simp [hge]
    simpa [hn] using h
theorem join2I_st {v1 v2 : Value} {l1 l2 : List Int} (S : St w0 w R) (s1 : SlI w v1 l1) (s2 : SlI w v2 l2) (hl : l1.length + l2.length ≤ 100000000) {K : KV} (h : ∀ w' v', St w0 w' (rowI v' (l1 ++ l2) :: R) → K v' w') :
    bsT P T.sl_sl_int 2 #[(0, v1), (1, v2)] w fun t w => fcallT P F.slices_Concat_int_int [t] w K := by
  obtain ⟨a1, k1, hv1, _⟩ := id s1
  obtain ⟨a2, k2, hv2, _⟩ := id s2
  have hbs : ∀ K', bsT P T.sl_sl_int 2 #[(0, v1), (1, v2)] w K' = K' (.slice (some ⟨w.heap.size, 0, none⟩) 2 2) (w.alloc (.cells #[v1, v2] T.sl_int)) := fun K' => by rw [hv1, hv2]; simp
  rw [hbs]
  have f1 : Fr (fun _ => False) w (w.alloc (.cells #[v1, v2] T.sl_int)) := (Fr.refl _ w).alloc _
  have hn : (w.alloc (.cells #[v1, v2] T.sl_int)).heap[w.heap.size]? = some (.cells (([(v1, l1), (v2, l2)] : List (Value × List Int)).map (·.1)).toArray T.sl_int (0, 0)) := by
    rw [alloc_heap, if_pos rfl]; rfl
  rw [M.slices_Concat_int_int.fcall]
  refine CI.concat_ok (L := [(v1, l1), (v2, l2)]) hn (fun p hp => ?_) (by simp [CI.tot]; omega) (by simp) fun w' v o f2 => ?_
  · simp at hp
    rcases hp with rfl | rfl
    · exact s1.fr f1 fun _ _ _ h => h
    · exact s2.fr f1 fun _ _ _ h => h
  · have hs : w.heap.size ≤ (w.alloc (.cells #[v1, v2] T.sl_int)).heap.size := f1.size
    refine h w' v (S.add (a := rowI v (l1 ++ l2)) (f1.trans f2) (B := fun b => v.ownBlock = some b) ⟨?_, fun b hb => hb⟩ fun b hb => ?_)
    · simpa using o.mono (Nat.zero_le _)
    · have := o.lt hb
      exact ⟨by omega, this.2⟩
def OrI (w0 : World) (v : Value) (ns : List Int) (R : List Asn) : KL := fun y w1 => ∃ (u0 u1 u2 : Value) (i f : Nat), y = [u0, u1, u2, .int .i64 (i : Nat)] ∧ i + f = ns.length ∧ orderF ns = orderG ns f i ∧ St w0 w1 (rowI v ns :: R)
theorem order_st (S : St w0 w (rowI v ns :: R)) (hl : ns.length ≤ 1000000) (hr : ∀ n ∈ ns, 0 ≤ n ∧ n < 64) {K : KV} (h : ∀ w' v', St w0 w' (rowI v' (orderF ns) :: R) → K v' w') : fcallT P F.wal_order [v] w K := by
  rw [M.wal_order.fcall]
  apply M.wal_order.calls
  unfold M.wal_order
  have hlen : ∀ {w1 : World}, St w0 w1 (rowI v ns :: R) → ∀ w' K, biT P .len #[T.sl_int] T.int [false] [v] w' K = K (.int .i64 ns.length) w' := fun S w' K => (S.row encL_len : SlI _ v ns).len_ok (by kernel_rfl) [false]
  simp [hlen S]
  refine ⟨OrI w0 v ns R, fun y _ => ns.length - ms y 3, ⟨_, _, _, 0, ns.length, rfl, by omega, rfl, S⟩, ?_⟩
  rintro y w1 ⟨u0, u1, u2, i, f, rfl, hif, ho, S1⟩
  have hs : SlI w1 v ns := S1.row encL_len
  by_cases hlt : i < ns.length
  · have hlti : (i : Int) < (ns.length : Int) := by omega
    obtain ⟨b, o, cap, hv, _, _, hc⟩ := hs.at hlt
    have c0 := hc 0 _ rfl
    simp only [Nat.mul_one, Nat.add_zero] at c0
    have hia : ∀ w' K, iaT P T.sl_int v (.int .i64 (i : Nat)) w' K = K (.pointer (some ⟨b, o + i, none⟩)) w' := fun w' K => by rw [hv]; simp [hlt]
    have hr1 := hr _ (List.getElem_mem hlt)
    simp [hlti]
    unfold M.wal_order.j2
    have hw1 : IntKind.i64.wrap (ns[i] + 64) = ns[i] + 64 := wrap_id (by omega) (by omega)
    have hw2 : IntKind.i64.wrap (ns[i] + 64 - 1) = ns[i] + 63 := by rw [wrap_id (by omega) (by omega)]; omega
    have et : (ns[i] + 63).tmod 64 = (ns[i] + 63) % 64 := by rw [Int.tmod_eq_emod_of_nonneg (by omega)]
    simp [hia, c0, hw1, hw2, bin_rem, et]
    refine has_int hs hl _ ?_
    cases f with
    | zero => omega
    | succ f =>
      rw [orderG, List.getElem?_eq_getElem hlt] at ho
      simp only at ho
      have hw : IntKind.i64.wrap ((i : Int) + 1) = ((i + 1 : Nat) : Int) := by rw [wrap_id (by omega) (by omega)]; omega
      by_cases hin : (ns[i] + 63) % 64 ∈ ns
      · rw [if_neg (fun hx => hx.2 hin)] at ho
        simp [hin]
        rw [hw]
        refine ⟨⟨_, _, _, i + 1, f, rfl, by omega, ho, S1⟩, ?_⟩
        simp [ms, gv]; omega
      · by_cases h0 : 0 < i
        · rw [if_pos ⟨h0, hin⟩] at ho
          rw [ho] at h
          have h0i : (0 : Int) < (i : Int) := by omega
          simp [hin, h0]
          have S2 := S1.step ((Fr.refl _ w1).dr 1)
          have hs2 : SlI (dr w1 1) v ns := S2.row encL_len
          obtain ⟨va, sa, _, ra⟩ := hs2.sub (P := P) (t := T.sl_int) (lo := some (.int .i64 (i : Nat))) (hi := none) (i := i) (j := ns.length) (by kernel_rfl) (by kernel_rfl) (.inr ⟨_, rfl⟩) (.inl ⟨rfl, rfl⟩) (by omega) (Nat.le_refl _)
          obtain ⟨vb, sb, _, rb⟩ := hs2.sub (P := P) (t := T.sl_int) (lo := none) (hi := some (.int .i64 (i : Nat))) (i := 0) (j := i) (by kernel_rfl) (by kernel_rfl) (.inl ⟨rfl, rfl⟩) (.inr ⟨_, rfl⟩) (by omega) (by omega)
          rw [ra]
          refine ⟨rfl, ?_⟩
          rw [rb]
          refine ⟨rfl, ?_⟩
          have ea : (ns.drop i).take (ns.length - i) = ns.drop i := List.take_of_length_le (by simp)
          have eb : (ns.drop 0).take (i - 0) = ns.take i := by simp
          rw [ea] at sa
          rw [eb] at sb
          refine join2I_st S2 sa sb (by simp; omega) fun w2 v2 S3 => h w2 v2 ?_
          exact S3.swap.drop
        · rw [if_neg (fun hx => h0 hx.1)] at ho
          have h0i : ¬ (0 : Int) < (i : Int) := by omega
          simp [hin, h0]
          rw [hw]
          refine ⟨⟨_, _, _, i + 1, f, rfl, by omega, ho, S1⟩, ?_⟩
          simp [ms, gv]; omega
  · have hge : ¬ (i : Int) < (ns.length : Int) := by omega
    have hf0 : f = 0 := by omega
    subst hf0
    rw [ho] at h
    simp [hge]
    exact h w1 v S1
end
end Go.Proofs.Ytkjhekflgghbdaa
set_option maxRecDepth 100000
namespace Go.Proofs.Ytkjhekflgghbdaa
open Go.Eng Go.Proofs.Ytkjhekflgghbdaa.Sint
def loadQ (k : Int) (a : List (List Int) × Nat) : Prt := ⟨k, IntKind.i64.wrap (u64F (a.1.headD [])), a.1.tail, (a.2 : Int)⟩
def loadF (D : Dk) (k : Int) (last : Bool) : (Dk × Option Prt) × Int :=
  if (D.read k).2 ≠ 0 then ((D, none), (D.read k).2) else
  if last = false ∧ (allF (D.read k).1).2 < (D.read k).1.length then ((D, none), 6) else
  if (allF (D.read k).1).1 = [] ∧ last = true then (((D.remove k).1, none), (D.remove k).2) else
  if (allF (D.read k).1).1 = [] ∨ ((allF (D.read k).1).1.headD []).length ≠ 8 then ((D, none), 6) else
  if (allF (D.read k).1).2 < (D.read k).1.length then
    (if (D.cut k (allF (D.read k).1).2).2 ≠ 0 then (((D.cut k (allF (D.read k).1).2).1, none), (D.cut k (allF (D.read k).1).2).2) else (((D.cut k (allF (D.read k).1).2).1, some (loadQ k (allF (D.read k).1))), 0))
  else ((D, some (loadQ k (allF (D.read k).1))), 0)
section
variable {w0 w : World} {R : List Asn} {p hb : Nat} {v : Value} {ps : List Nat} {L : Lg} {q : Prt} {D : Dk}
theorem read_len (S : St w0 w (diskA hb D :: R)) (k : Int) : (D.read k).1.length ≤ 1048576 := by
  obtain ⟨r, m, es, hk, _⟩ := unDk S
  unfold Dk.read
  split
  · simp
  · cases hg : D.get k with
    | none => simp
    | some f =>
      have h1 := hk.room
      have h2 := hk.used
      have h3 : f.len ≤ D.used := sum_le_mem (List.mem_map_of_mem (List.mem_of_find?_eq_some hg))
      simp only [List.length_append]
      unfold Fil.len at h3
      omega
theorem load_fin {lv : Value} {d : List Int} {r : List (List Int)} {us : Nat} (S : St w0 w (listA lv (d :: r) :: R)) (hd : d.length = 8) {k : Int} {K : KV} (h : ∀ w' np, St w0 w' (partA np (loadQ k (d :: r, us)) :: R) → K (.tuple #[ptr0 np, .int .i64 0]) w') : M.pwal_Log_load.j1 lv (.int .i64 us) (.int .i64 k) w K := by
  unfold M.pwal_Log_load.j1
  have S1 := S.step ((Fr.refl _ w).dr 1)
  obtain ⟨b, o, s, hia, hcs, cc, hs⟩ := list_at S1 (i := 0) (by simp)
  have hia0 : ∀ w' K, iaT P T.sl_sl_uint8 lv (.int .i64 0) w' K = K (.pointer (some ⟨b, o, none⟩)) w' := hia
  obtain ⟨v', S2, hsl⟩ := list_tail S1 (k := .i64)
  simp only [SV.v] at cc
  have cc1 : cellOf w b o = some (.slice s.a s.n s.c) := by simpa using cc
  simp only [List.getElem_cons_zero] at hs
  simp [hia0, cc1, hsl]
  refine u64_ok hs (by omega) ?_
  obtain ⟨sv, rfl⟩ := list_sv S2
  simp [hsl, SV.v]
  rw [cv_ints (ks := .u64) (kd := .i64) (by kernel_rfl) (by kernel_rfl)]
  simp
  have S3 := addBlk S2 (partC (loadQ k (d :: r, us)) sv.v) T.wal_part
  exact h _ _ (mkPart S3)
theorem load_st (S : St w0 w (blkA p (logC hb L.most v) T.wal_Log :: diskA hb D :: R)) (k : Int) (last : Bool) {K : KV}
    (hn : ∀ w', (loadF D k last).1.2 = none → St w0 w' (blkA p (logC hb L.most v) T.wal_Log :: diskA hb (loadF D k last).1.1 :: R) → K (.tuple #[.pointer none, .int .i64 (loadF D k last).2]) w')
    (hs : ∀ w' np q, loadF D k last = (((loadF D k last).1.1, some q), 0) → St w0 w' (partA np q :: blkA p (logC hb L.most v) T.wal_Log :: diskA hb (loadF D k last).1.1 :: R) → K (.tuple #[ptr0 np, .int .i64 0]) w') :
    fcallT P F.pwal_Log_load [ptr0 p, .int .i64 k, .bool last] w K := by
  rw [M.pwal_Log_load.fcall]
  apply M.pwal_Log_load.calls
  unfold M.pwal_Log_load
  obtain ⟨c0, _⟩ := log_cells S.blk
  have hrl := read_len S.swap k
  simp only [ptr0]
  simp [c0]
  refine read_st S.swap k fun w1 v1 S1 => ?_
  have S2 : St w0 w1 (rowB v1 (D.read k).1 :: blkA p (logC hb L.most v) T.wal_Log :: diskA hb D :: R) := S1.tail (.swap _ _ _)
  unfold loadF at hn hs
  generalize D.read k = rd at *
  obtain ⟨l, kd⟩ := rd
  simp only at hrl S2 hn hs ⊢
  by_cases hkd : kd ≠ 0
  · rw [if_pos hkd] at hn
    simp [hkd]
    exact hn w1 rfl S2.drop
  · rw [if_neg hkd] at hn hs
    have hkd0 : kd = 0 := by omega
    subst hkd0
    simp
    unfold M.pwal_Log_load.j0
    refine fall_st S2 (fun w' L' S' => (S'.perm List.perm_middle).row encB_len) (by omega) fun w2 lv kx S3 => ?_
    have hlenv := fun w' K => row_form S3.swap w' K
    generalize allF l = a at *
    obtain ⟨ds, us⟩ := a
    simp only at hn hs S3 ⊢
    have hdlen := fun w' K => list_len S3 w' K
    have S4 : St w0 w2 (listA lv ds :: blkA p (logC hb L.most v) T.wal_Log :: diskA hb D :: R) := S3.swap.drop
    obtain ⟨c0, _⟩ := log_cells S4.swap.blk
    have fin : ∀ {D' : Dk} {w3 : World} {d : List Int} {r : List (List Int)}, ds = d :: r → d.length = 8 → (∀ w' np, St w0 w' (partA np (loadQ k (d :: r, us)) :: blkA p (logC hb L.most v) T.wal_Log :: diskA hb D' :: R) → K (.tuple #[ptr0 np, .int .i64 0]) w') → St w0 w3 (listA lv ds :: blkA p (logC hb L.most v) T.wal_Log :: diskA hb D' :: R) → M.pwal_Log_load.j1 lv (.int .i64 us) (.int .i64 k) w3 K := fun hd h8 h S5 => by
      rw [hd] at S5
      exact load_fin S5 h8 h
    cases last with
    | false =>
      by_cases hus : us < l.length
      · have husi : (us : Int) < (l.length : Int) := by omega
        rw [if_pos ⟨rfl, hus⟩] at hn
        simp [hlenv, husi]
        exact hn w2 rfl S4.drop
      · have husi : ¬ (us : Int) < (l.length : Int) := by omega
        rw [if_neg (fun hx => hus hx.2)] at hn hs
        cases ds with
        | nil =>
          rw [if_neg (by simp), if_pos (.inl rfl)] at hn
          simp [hlenv, hdlen, husi]
          exact hn w2 rfl S4.drop
        | cons d r =>
          rw [if_neg (by simp)] at hn hs
          have hz : ¬ ((r.length : Int) + 1 = 0) := by omega
          obtain ⟨b, o, sv, hia, _, cc, hsd⟩ := list_at S4 (i := 0) (by simp)
          have hia0 : ∀ w' K, iaT P T.sl_sl_uint8 lv (.int .i64 0) w' K = K (.pointer (some ⟨b, o, none⟩)) w' := hia
          simp only [List.getElem_cons_zero] at hsd
          have hd8 : ∀ w' K, biT P .len #[T.sl_uint8] T.int [false] [sv.v] w' K = K (.int .i64 d.length) w' := fun w' K => hsd.len_ok (by kernel_rfl) [false]
          simp only [SV.v] at cc hd8
          by_cases h8 : d.length = 8
          · have h8i : (d.length : Int) = 8 := by omega
            rw [if_neg (by simp [h8]), if_neg hus] at hn hs
            simp [hlenv, hdlen, husi, hia0, hz, cc, hd8, h8i]
            exact fin rfl h8 (fun w' np S5 => hs w' np _ rfl S5) S4
          · have h8i : ¬ (d.length : Int) = 8 := by omega
            rw [if_pos (.inr (by simpa using h8))] at hn
            simp [hlenv, hdlen, husi, hia0, hz, cc, hd8, h8i]
            exact hn w2 rfl S4.drop
    | true =>
      rw [if_neg (by simp)] at hn hs
      cases ds with
      | nil =>
        rw [if_pos ⟨rfl, rfl⟩] at hn
        simp [hdlen, c0]
        refine remove_st S4.up2 k fun w3 S5 => ?_
        exact hn w3 rfl S5.dn2.drop
      | cons d r =>
        rw [if_neg (by simp)] at hn hs
        have hz : ¬ ((r.length : Int) + 1 = 0) := by omega
        obtain ⟨b, o, sv, hia, _, cc, hsd⟩ := list_at S4 (i := 0) (by simp)
        have hia0 : ∀ w' K, iaT P T.sl_sl_uint8 lv (.int .i64 0) w' K = K (.pointer (some ⟨b, o, none⟩)) w' := hia
        simp only [List.getElem_cons_zero] at hsd
        have hd8 : ∀ w' K, biT P .len #[T.sl_uint8] T.int [false] [sv.v] w' K = K (.int .i64 d.length) w' := fun w' K => hsd.len_ok (by kernel_rfl) [false]
        simp only [SV.v] at cc hd8
        by_cases h8 : d.length = 8
        · have h8i : (d.length : Int) = 8 := by omega
          rw [if_neg (by simp [h8])] at hn hs
          by_cases hus : us < l.length
          · have husi : (us : Int) < (l.length : Int) := by omega
            rw [if_pos hus] at hn hs
            simp [hlenv, hdlen, husi, hia0, hz, cc, hd8, h8i, c0]
            refine cut_st S4.up2 k us fun w3 S5 => ?_
            by_cases hc : (D.cut k us).2 = 0
            · rw [if_neg (by simpa using hc)] at hs
              rw [hc]
              simp
              exact fin rfl h8 (fun w' np S6 => hs w' np _ rfl S6) S5.dn2
            · rw [if_pos hc] at hn
              simp [hc]
              exact hn w3 rfl S5.dn2.drop
          · have husi : ¬ (us : Int) < (l.length : Int) := by omega
            rw [if_neg hus] at hs
            simp [hlenv, hdlen, husi, hia0, hz, cc, hd8, h8i]
            exact fin rfl h8 (fun w' np S5 => hs w' np _ rfl S5) S4
        · have h8i : ¬ (d.length : Int) = 8 := by omega
          rw [if_pos (.inr (by simpa using h8))] at hn
          simp [hdlen, hia0, hz, cc, hd8, h8i]
          exact hn w2 rfl S4.drop
end
end Go.Proofs.Ytkjhekflgghbdaa
set_option maxRecDepth 100000
namespace Go.Proofs.Ytkjhekflgghbdaa
open Go.Eng Go.Proofs.Ytkjhekflgghbdaa.Sint
def nextOf (qs : List Prt) : Int := Lg.next ⟨0, qs⟩
def openG : List Int → Dk → List Prt → (Dk × Option (List Prt)) × Int
  | [], D, qs => ((D, some qs), 0)
  | k :: ks, D, qs => if (loadF D k ks.isEmpty).2 ≠ 0 then (((loadF D k ks.isEmpty).1.1, none), (loadF D k ks.isEmpty).2) else match (loadF D k ks.isEmpty).1.2 with
    | none => openG ks (loadF D k ks.isEmpty).1.1 qs
    | some q => if qs ≠ [] ∧ q.first ≠ nextOf qs then (((loadF D k ks.isEmpty).1.1, none), 6) else openG ks (loadF D k ks.isEmpty).1.1 (qs ++ [q])
def openF (D : Dk) (most : Int) : (Dk × Option (List Prt)) × Int := if most < 64 ∨ 1048576 < most then ((D, none), 1) else if D.down then ((D, none), 10) else openG (orderF D.files) D []
theorem nodup_le : ∀ (n : Nat) (l : List Int), l.Nodup → (∀ x ∈ l, 0 ≤ x ∧ x < n) → l.length ≤ n
  | 0, l, _, h => by
    cases l with
    | nil => simp
    | cons x l => have := h x (by simp); omega
  | n + 1, l, hn, h => by
    have := nodup_le n (l.erase (n : Int)) (hn.erase _) (fun x hx => by
      have h1 := h x (List.mem_of_mem_erase hx)
      have h2 : x ≠ (n : Int) := fun he => by
        subst he
        exact (List.Nodup.not_mem_erase hn) hx
      omega)
    rw [List.length_erase] at this
    split at this <;> omega
theorem orderG_len (ns : List Int) : ∀ f i, i ≤ ns.length → (orderG ns f i).length = ns.length
  | 0, _, _ => rfl
  | f + 1, i, hi => by
    rw [orderG]
    split
    · rfl
    · split
      · simp; omega
      · rename_i h _
        exact orderG_len ns f (i + 1) (by
          rw [List.getElem?_eq_some_iff] at h
          exact h.1)
theorem orderF_len (ns : List Int) : (orderF ns).length = ns.length := orderG_len ns _ 0 (Nat.zero_le _)
section
variable {w0 w : World} {R : List Asn} {p hb : Nat} {v : Value} {ps : List Nat} {L : Lg} {q : Prt} {D : Dk} {most : Int}
theorem files_rng (S : St w0 w (diskA hb D :: R)) : (∀ n ∈ D.files, 0 ≤ n ∧ n < 64) ∧ D.files.length ≤ 64 ∧ D.files.Nodup := by
  obtain ⟨r, m, es, hk, _⟩ := unDk S
  have hp : D.files.Perm D.keys := srtd_perm _
  have hkk := hk.keys
  have h1 : ∀ n ∈ D.files, 0 ≤ n ∧ n < 64 := fun n hn => by
    have := hp.mem_iff.1 hn
    rw [hkk, List.mem_map] at this
    obtain ⟨e, he, rfl⟩ := this
    exact hk.rng e he
  have h2 : D.files.Nodup := hp.nodup_iff.2 (by rw [hkk]; exact hk.tn)
  exact ⟨h1, nodup_le 64 _ h2 h1, h2⟩
def opL (p hb : Nat) (most : Int) (v : Value) (ps : List Nat) (qs : List Prt) (D : Dk) (ov : Value) (ns : List Int) (R : List Asn) : List Asn := blkA p (logC hb most v) T.wal_Log :: diskA hb D :: Eng.rowO T.p_wal_part 1 encP v ps :: zipA partA ps qs :: rowI ov ns :: R
def OpI (w0 : World) (p hb : Nat) (most : Int) (ov : Value) (ns : List Int) (D0 : Dk) (R : List Asn) : KL := fun y w1 => ∃ (u0 u1 u2 u3 u4 u5 u6 u7 u8 v : Value) (ps : List Nat) (qs : List Prt) (D : Dk) (i : Nat), y = [u0, u1, u2, u3, u4, u5, u6, u7, u8, .int .i64 (i : Nat)] ∧ i ≤ ns.length ∧ ps.length = qs.length ∧ qs.length ≤ i ∧ openG ns D0 [] = openG (ns.drop i) D qs ∧ St w0 w1 (opL p hb most v ps qs D ov ns R)
theorem opn_st (S : St w0 w (diskA hb D :: R)) (hmx : most < 9223372036854775808) {K : KV}
    (hn : ∀ w', (openF D most).1.2 = none → St w0 w' (diskA hb (openF D most).1.1 :: R) → K (.tuple #[.pointer none, .int .i64 (openF D most).2]) w')
    (hs : ∀ w' p qs, openF D most = (((openF D most).1.1, some qs), 0) → St w0 w' (logA p hb ⟨most, qs⟩ :: diskA hb (openF D most).1.1 :: R) → K (.tuple #[ptr0 p, .int .i64 0]) w') :
    fcallT P F.wal_Open [.pointer (some ⟨hb, 0, none⟩), .int .i64 most] w K := by
  rw [M.wal_Open.fcall]
  apply M.wal_Open.calls
  unfold M.wal_Open
  unfold openF at hn hs
  by_cases h1 : most < 64 ∨ 1048576 < most
  · rw [if_pos h1] at hn
    by_cases h2 : most < 64
    · simp [h2]
      exact hn w rfl S
    · have h3 : 1048576 < most := by omega
      simp [h2, h3]
      exact hn w rfl S
  · rw [if_neg h1] at hn hs
    have h2 : ¬ most < 64 := by omega
    have h3 : ¬ 1048576 < most := by omega
    simp [h2, h3]
    refine down_st S ?_
    cases hd : D.down with
    | true =>
      rw [hd] at hn
      simp
      exact hn w rfl S
    | false =>
      rw [hd] at hn hs
      simp only [Bool.false_eq_true, if_false] at hn hs
      simp
      unfold M.wal_Open.j0
      simp
      have S1 : St w0 (w.alloc (.cells (logC hb most (.slice none 0 0)) T.wal_Log)) (blkA w.heap.size (logC hb most (.slice none 0 0)) T.wal_Log :: diskA hb D :: R) := addBlk S _ _
      generalize w.heap.size = p at *
      simp only [logC] at S1
      generalize w.alloc (.cells #[.pointer (some ⟨hb, 0, none⟩), .int .i64 most, .slice none 0 0] T.wal_Log) = w1 at *
      obtain ⟨fr1, fr2, _⟩ := files_rng S1.swap
      refine files_st S1.swap fun w2 v2 S2 => ?_
      refine order_st S2 (by omega) fr1 fun w3 v3 S3 => ?_
      have hol := orderF_len D.files
      generalize orderF D.files = ns at *
      rw [mkf_eq]
      have hlen : ∀ {w1 : World} {R' : List Asn}, St w0 w1 (rowI v3 ns :: R') → ∀ w' K, biT P .len #[T.sl_int] T.int [false] [v3] w' K = K (.int .i64 ns.length) w' := fun S w' K => (S.row encL_len : SlI _ v3 ns).len_ok (by kernel_rfl) [false]
      simp [hlen S3]
      have S4 : St w0 w3 (opL p hb most (.slice none 0 0) [] [] D v3 ns R) := by
        have T1 : St w0 w3 (rowI v3 ns :: diskA hb D :: blkA p (logC hb most (.slice none 0 0)) T.wal_Log :: R) := S3
        have T2 := nilRowO (e := T.p_wal_part) (sz := 1) (enc := encP) (zip_nil (f := partA) T1)
        exact (St.up4 (St.up4 T2)).swap
      refine ⟨OpI w0 p hb most v3 ns D R, fun y _ => ns.length - ms y 9, ⟨_, _, _, _, _, _, _, _, _, _, [], [], D, 0, rfl, Nat.zero_le _, rfl, Nat.le_refl _, rfl, S4⟩, ?_⟩
      rintro y w4 ⟨u0, u1, u2, u3, u4, u5, u6, u7, u8, v, ps, qs, D', i, rfl, hi, hl, hqi, ho, S5⟩
      unfold M.wal_Open.j2
      by_cases hlt : i < ns.length
      · have hlti : (i : Int) < (ns.length : Int) := by omega
        simp [hlti]
        unfold M.wal_Open.j3
        unfold opL at S5
        have hsI : SlI w4 v3 ns := S5.up4.row encL_len
        obtain ⟨b, o, cap, hv, _, _, hc⟩ := hsI.at hlt
        have c0 := hc 0 _ rfl
        simp only [Nat.mul_one, Nat.add_zero] at c0
        have hia : ∀ w' K, iaT P T.sl_int v3 (.int .i64 (i : Nat)) w' K = K (.pointer (some ⟨b, o + i, none⟩)) w' := fun w' K => by rw [hv]; simp [hlt]
        have hw1 : IntKind.i64.wrap ((ns.length : Int) - 1) = ((ns.length - 1 : Nat) : Int) := by rw [wrap_id (by omega) (by omega)]; omega
        simp [hia, c0, hlen S5.up4, hw1]
        have hlast : decide ((i : Int) = ((ns.length - 1 : Nat) : Int)) = (ns.drop (i + 1)).isEmpty := by
          rw [Bool.eq_iff_iff, decide_eq_true_eq, List.isEmpty_iff, List.drop_eq_nil_iff]
          omega
        rw [hlast]
        have hcall : ∀ x y w K, callRT P (.func (.func F.pwal_Log_load) #[.pointer (some ⟨p, 0, none⟩)] #[]) [x, y] w K = fcallT P F.pwal_Log_load [ptr0 p, x, y] w K := fun x y w K => by
          rw [M.pwal_Log_load.fcall]
          exact M.pwal_Log_load.rcall [ptr0 p] [] [x, y] w K
        rw [hcall]
        rw [List.drop_eq_getElem_cons hlt, openG] at ho
        generalize ns[i] = k at *
        generalize (ns.drop (i + 1)).isEmpty = last at *
        have hw : IntKind.i64.wrap ((i : Int) + 1) = ((i + 1 : Nat) : Int) := by rw [wrap_id (by omega) (by omega)]; omega
        refine load_st (L := ⟨most, []⟩) S5 k last (fun w5 hnone S6 => ?_) fun w5 np q hsome S6 => ?_
        · by_cases hk : (loadF D' k last).2 = 0
          · rw [if_neg (by simpa using hk), hnone] at ho
            rw [hk]
            simp
            rw [hw]
            refine ⟨⟨_, _, _, _, _, _, _, _, _, v, ps, qs, _, i + 1, rfl, hlt, hl, by omega, ho, S6⟩, ?_⟩
            simp [ms, gv]; omega
          · rw [if_pos hk] at ho
            simp [hk]
            rw [ho] at hn
            exact hn w5 rfl (St.drop S6 |>.swap.drop.swap.drop.swap.drop)
        · rw [hsome] at ho
          simp only [ne_eq, not_true_eq_false, if_false] at ho
          simp only [ptr0]
          simp
          have T1 := S6.step ((Fr.refl _ w5).dr 1)
          obtain ⟨e0, e1, e2, ez⟩ := log_cells T1.swap.blk
          have hlen2 := fun w' K => rowPt_len T1.up3 w' K
          have e2' : cellOf w5 p 2 = some v := by simpa using e2
          obtain ⟨rv, T2⟩ := unPart T1
          obtain ⟨d0, d1, _⟩ := part_cells T2.blk
          have d1' : cellOf w5 np 1 = some (.int .i64 q.first) := by simpa using d1
          simp [e2', hlen2, d1']
          have T3 : St w0 (dr w5 1) (blkA p (logC hb most v) T.wal_Log :: Eng.rowO T.p_wal_part 1 encP v ps :: zipA partA ps qs :: partA np q :: diskA hb (loadF D' k last).1.1 :: rowI v3 ns :: R) := St.up3 (St.up4 (St.up4 T1))
          have hpush : ∀ {w6 : World} {x5 : List Value}, St w0 w6 (blkA p (logC hb most v) T.wal_Log :: Eng.rowO T.p_wal_part 1 encP v ps :: zipA partA ps qs :: partA np q :: diskA hb (loadF D' k last).1.1 :: rowI v3 ns :: R) → openG ns D [] = openG (ns.drop (i + 1)) (loadF D' k last).1.1 (qs ++ [q]) → M.wal_Open.j5 (.pointer (some ⟨p, 0, none⟩)) (.pointer (some ⟨np, 0, none⟩)) (fun x4 w => OpI w0 p hb most v3 ns D R [gv x4 0, gv x4 1, gv x4 2, gv x4 3, gv x4 4, gv x4 5, gv x4 6, gv x4 7, gv x4 8, .int .i64 (IntKind.i64.wrap ((i : Int) + 1))] w ∧ ns.length - ms [gv x4 0, gv x4 1, gv x4 2, gv x4 3, gv x4 4, gv x4 5, gv x4 6, gv x4 7, gv x4 8, .int .i64 (IntKind.i64.wrap ((i : Int) + 1))] 9 < ns.length - ms [u0, u1, u2, u3, u4, u5, u6, u7, u8, .int .i64 (i : Nat)] 9) [u0, u1, u2, u3, u4, u5, u6, u7, u8, .int .i64 (i : Nat)] (.int .i64 k) (.int .i64 0) x5 w6 K := by
            intro w6 x5 T4 ho2
            unfold M.wal_Open.j5
            simp
            refine push_part (L := ⟨most, qs⟩) hl (show qs.length ≤ 1000000 by omega) T4.up3 fun w7 T5 => ?_
            obtain ⟨v', ps', hl', T6⟩ := unLog T5
            rw [hw]
            refine ⟨⟨_, _, _, _, _, _, _, _, _, v', ps', qs ++ [q], _, i + 1, rfl, hlt, hl', by simp; omega, ho2, T6.up3.swap⟩, ?_⟩
            simp [ms, gv]; omega
          by_cases h0 : 0 < ps.length
          · have hqne : qs ≠ [] := fun h => by rw [hl, h] at h0; exact absurd h0 (by simp)
            simp [h0, d1']
            refine next_ok (L := ⟨most, qs⟩) hl T3 (by rw [hl]; omega) fun w6 f6 => ?_
            have T4 := T3.step f6
            obtain ⟨rv6, T5⟩ := unPart T4.up3
            obtain ⟨_, g1, _⟩ := part_cells T5.blk
            have hnx : Lg.next ⟨most, qs⟩ = nextOf qs := rfl
            simp [g1, hnx]
            by_cases hq : q.first = nextOf qs
            · rw [if_neg (fun hx => hx.2 hq)] at ho
              simp [hq]
              exact hpush T4 ho
            · rw [if_pos ⟨hqne, hq⟩] at ho
              rw [ho] at hn
              simp [hq]
              exact hn w6 rfl (T4.drop.drop.drop.drop.swap.drop)
          · have hqe : qs = [] := List.length_eq_zero_iff.1 (by omega)
            rw [if_neg (fun hx => hx.1 hqe)] at ho
            simp [h0]
            exact hpush T3 ho
      · have hge : ¬ (i : Int) < (ns.length : Int) := by omega
        rw [List.drop_of_length_le (by omega)] at ho
        simp [hge]
        rw [ho] at hs
        exact hs w4 p qs rfl (mkLog (L := ⟨most, qs⟩) hl (St.swap (St.drop (St.up4 S5))).dn3)
end
end Go.Proofs.Ytkjhekflgghbdaa
set_option maxRecDepth 100000
namespace Go.Proofs.Ytkjhekflgghbdaa
open Go.Eng Go.Proofs.Ytkjhekflgghbdaa.Sint
/-! ### A disk's files, as a list -/
section
variable {D : Dk} {A B : List Fil} {f : Fil}
theorem get_mid (h : D.fs = A ++ f :: B) (hA : ∀ x ∈ A, x.n ≠ f.n) : D.get f.n = some f := by
  unfold Dk.get
  rw [h, List.find?_append, List.find?_eq_none.2 (fun x hx => by simp [hA x hx])]
  simp
theorem get_no {k : Int} (h : ∀ x ∈ D.fs, x.n ≠ k) : D.get k = none := by
  unfold Dk.get
  exact List.find?_eq_none.2 fun x hx => by simp [h x hx]
theorem map_same {k : Int} {fa lo : List Int} {A : List Fil} (hA : ∀ x ∈ A, x.n ≠ k) : A.map (fun f => if f.n = k then (⟨k, fa, lo⟩ : Fil) else f) = A := by
  conv => rhs; rw [← List.map_id A]
  exact List.map_congr_left fun x hx => by rw [if_neg (hA x hx)]; rfl
theorem setF_mid (h : D.fs = A ++ f :: B) (hA : ∀ x ∈ A, x.n ≠ f.n) (hB : ∀ x ∈ B, x.n ≠ f.n) (fa lo : List Int) : (D.setF f.n fa lo).fs = A ++ ⟨f.n, fa, lo⟩ :: B := by
  show D.fs.map (fun g => if g.n = f.n then (⟨f.n, fa, lo⟩ : Fil) else g) = _
  rw [h, List.map_append, List.map_cons, map_same hA, map_same hB, if_pos rfl]
theorem rem_mid (h : D.fs = A ++ f :: B) (hA : ∀ x ∈ A, x.n ≠ f.n) (hB : ∀ x ∈ B, x.n ≠ f.n) : (D.rem f.n).fs = A ++ B := by
  show D.fs.filter (fun g => decide (g.n ≠ f.n)) = _
  rw [h, List.filter_append, List.filter_cons, if_neg (by simp), List.filter_eq_self.2 (fun x hx => by simpa using hA x hx), List.filter_eq_self.2 (fun x hx => by simpa using hB x hx)]
/-- What a crash leaves of the last file. -/
def CrS (A : List Fil) (n : Int) (fa lo : List Int) (D D' : Dk) (v : Prop) : Prop := D'.room = D.room ∧ ∃ fa' lo', D'.fs = A ++ [⟨n, fa', lo'⟩] ∧ ((fa' = fa ∧ lo' = lo) ∨ (lo' = [] ∧ ∃ s, fa' = fa ++ lo.take s)) ∧ (v → lo' = [])
theorem crash_last {n : Int} {fa lo : List Int} (h : D.fs = A ++ [⟨n, fa, lo⟩]) (hA : ∀ x ∈ A, x.n ≠ n) (hl : ∀ x ∈ A, x.loose = []) (hd : (D.fs.map Fil.n).Nodup) (kl : List Int) :
    ∃ s, (D.crash kl).room = D.room ∧ (D.crash kl).down = false ∧ (D.crash kl).armed = false ∧ (D.crash kl).fs = A ++ [⟨n, fa ++ lo.take s, []⟩] := by
  have key : ∀ i, i ≤ D.files.length → CrS A n fa lo D (crN kl D D.files i) (n ∈ D.files.take i) := by
    intro i
    induction i with
    | zero => exact fun _ => ⟨rfl, fa, lo, h, .inl ⟨rfl, rfl⟩, fun h => by simp at h⟩
    | succ i ih =>
      intro hi
      obtain ⟨hr, fa', lo', h1, h2, h3⟩ := ih (by omega)
      have hlt : i < D.files.length := by omega
      have hk : D.files.getD i 0 = D.files[i] := by rw [List.getD_eq_getElem?_getD, List.getElem?_eq_getElem hlt]; rfl
      rw [crN, hk, List.take_succ_eq_append_getElem hlt]
      generalize crN kl D D.files i = E at *
      generalize D.files[i] = k at *
      have hAE : ∀ x ∈ A, x.n ≠ (⟨n, fa', lo'⟩ : Fil).n := hA
      unfold crStep
      by_cases hkn : k = n
      · subst hkn
        have hg := get_mid h1 hAE
        have hs := setF_mid h1 hAE (by simp) (fa' ++ lo'.take (stays kl i lo'.length)) []
        simp only at hg hs
        rw [hg]
        refine ⟨hr, _, _, hs, .inr ⟨rfl, ?_⟩, fun _ => rfl⟩
        rcases h2 with ⟨rfl, rfl⟩ | ⟨rfl, s, rfl⟩
        · exact ⟨_, rfl⟩
        · exact ⟨s, by simp⟩
      · have hmem : (n ∈ D.files.take i ++ [k]) ↔ n ∈ D.files.take i := by
          rw [List.mem_append, List.mem_singleton]
          exact ⟨fun h => h.elim id fun h => absurd h.symm hkn, .inl⟩
        rw [hmem]
        cases hg : E.get k with
        | none => exact ⟨hr, fa', lo', h1, h2, h3⟩
        | some g =>
          have hgm : g ∈ E.fs := List.mem_of_find?_eq_some hg
          have hgn : g.n = k := by simpa using List.find?_some hg
          rw [h1, List.mem_append, List.mem_singleton] at hgm
          rcases hgm with hgA | rfl
          · obtain ⟨a1, a2, hsp⟩ := List.append_of_mem hgA
            have hgl := hl g hgA
            have hnd : (A.map Fil.n).Nodup := by rw [h, List.map_append] at hd; exact (List.nodup_append.1 hd).1
            rw [hsp, List.map_append, List.map_cons, List.nodup_append, List.nodup_cons] at hnd
            have h1' : E.fs = a1 ++ g :: (a2 ++ [⟨n, fa', lo'⟩]) := by rw [h1, hsp]; simp
            have e := setF_mid h1' (fun x hx he => hnd.2.2 _ (List.mem_map_of_mem hx) g.n (by simp) he) (fun x hx he => by
              rw [List.mem_append, List.mem_singleton] at hx
              rcases hx with hx | rfl
              · exact hnd.2.1.1 (he ▸ List.mem_map_of_mem hx)
              · exact hkn (hgn ▸ he.symm)) (g.fast ++ g.loose.take (stays kl i g.loose.length)) []
            refine ⟨hr, fa', lo', ?_, h2, h3⟩
            rw [← hgn]
            refine e.trans ?_
            rw [hgl, hsp]
            obtain ⟨gn, gf, gl⟩ := g
            simp only at hgl
            subst hgl
            simp
          · exact absurd hgn (fun h => hkn h.symm)
  obtain ⟨hr, fa', lo', h1, h2, h3⟩ := key D.files.length (Nat.le_refl _)
  have hmem : n ∈ D.files.take D.files.length := by
    rw [List.take_length]
    refine (srtd_perm _).mem_iff.2 ?_
    unfold Dk.keys
    rw [h]; simp
  have hlo := h3 hmem
  subst hlo
  rcases h2 with ⟨rfl, rfl⟩ | ⟨_, s, rfl⟩
  · exact ⟨0, hr, rfl, rfl, by simpa [Dk.crash] using h1⟩
  · exact ⟨s, hr, rfl, rfl, h1⟩
theorem crash_none (h : D.fs = []) (kl : List Int) : (D.crash kl).room = D.room ∧ (D.crash kl).down = false ∧ (D.crash kl).armed = false ∧ (D.crash kl).fs = [] := by
  have hf : D.files = [] := by unfold Dk.files Dk.keys; rw [h]; exact List.perm_nil.1 (srtd_perm [])
  unfold Dk.crash
  rw [hf]
  exact ⟨rfl, rfl, rfl, h⟩
end
/-! ### A part's bytes -/
def body (q : Prt) : List Int := headB q.first ++ cat q.recs
def whole (q : Prt) : Fil := ⟨q.no, body q, []⟩
def headR (n : Int) : List Int := put64 (IntKind.u64.wrap n)
theorem body_cat (q : Prt) : body q = cat (headR q.first :: q.recs) := by unfold body headB cat headR; simp
theorem cat_append (a b : List (List Int)) : cat (a ++ b) = cat a ++ cat b := by unfold cat; simp
theorem cat_one (d : List Int) : cat [d] = frameF d := by unfold cat; simp
/-- A beginning of frames: whole ones, then a torn one. -/
theorem cat_prefix : ∀ {ds : List (List Int)} {c r : List Int}, (∀ d ∈ ds, d.length ≤ 8192) → c ++ r = cat ds → ∃ j p, j ≤ ds.length ∧ c = cat (ds.take j) ++ p ∧ Torn p ∧ (j = ds.length → p = []) ∧ ∀ h : j < ds.length, p.length < (frameF ds[j]).length
  | [], c, r, _, he => by
    have : c = [] := by
      have := congrArg List.length he
      simp [cat] at this
      exact this.1
    subst this
    exact ⟨0, [], Nat.le_refl _, by simp [cat], torn_nil, fun _ => rfl, fun h => by simp at h⟩
  | d :: ds, c, r, hd, he => by
    have e0 : cat (d :: ds) = frameF d ++ cat ds := by simp [cat]
    rw [e0] at he
    by_cases hc : c.length < (frameF d).length
    · refine ⟨0, c, Nat.zero_le _, by simp [cat], ⟨d, c.length, hd d (by simp), hc, ?_⟩, fun h => by simp at h, fun _ => by simpa using hc⟩
      have := congrArg (List.take c.length) he
      rw [List.take_left' rfl, List.take_append, Nat.sub_eq_zero_of_le (by omega)] at this
      simpa using this
    · obtain ⟨c', rfl⟩ : ∃ c', c = frameF d ++ c' := by
        refine ⟨c.drop (frameF d).length, ?_⟩
        have := congrArg (List.take (frameF d).length) he
        rw [List.take_left' rfl, List.take_append, Nat.sub_eq_zero_of_le (by omega)] at this
        simp at this
        conv => lhs; rw [← List.take_append_drop (frameF d).length c, this]
      rw [List.append_assoc] at he
      obtain ⟨j, p, h1, h2, h3, h4, h5⟩ := cat_prefix (fun x hx => hd x (by simp [hx])) (List.append_cancel_left he)
      refine ⟨j + 1, p, by simp; omega, ?_, h3, fun h => h4 (by simpa using h), fun h => by simpa using h5 (by simpa using h)⟩
      rw [List.take_succ_cons]
      have : cat (d :: ds.take j) = frameF d ++ cat (ds.take j) := by simp [cat]
      rw [this, h2, List.append_assoc]
theorem cat_take_len {ds : List (List Int)} {i j : Nat} (h : i ≤ j) : (cat (ds.take i)).length ≤ (cat (ds.take j)).length := by
  have : ds.take i = (ds.take j).take i := by rw [List.take_take, Nat.min_eq_left h]
  rw [this]
  conv => rhs; rw [← List.take_append_drop i (ds.take j), cat_append]
  simp
end Go.Proofs.Ytkjhekflgghbdaa
set_option maxRecDepth 100000
namespace Go.Proofs.Ytkjhekflgghbdaa
open Go.Eng Go.Proofs.Ytkjhekflgghbdaa.Sint
def allP (Q : List Prt) : List (List Int) := Q.flatMap Prt.recs
theorem allP_append (a b : List Prt) : allP (a ++ b) = allP a ++ allP b := by unfold allP; simp
theorem allP_one (q : Prt) : allP [q] = q.recs := by unfold allP; simp
def Chn : Int → Int → List Prt → Prop
  | _, _, [] => True
  | s, f, q :: r => q.no = s ∧ q.first = f ∧ (∀ d ∈ q.recs, d.length ≤ 8192) ∧ Chn ((s + 1) % 64) (f + q.recs.length) r
theorem chn_append {A B : List Prt} : ∀ {s f : Int}, 0 ≤ s ∧ s < 64 → (Chn s f (A ++ B) ↔ Chn s f A ∧ Chn ((s + A.length) % 64) (f + (allP A).length) B) := by
  induction A with
  | nil =>
    intro s f hs
    have : (s + (([] : List Prt).length : Int)) % 64 = s := by simp; omega
    rw [this]
    simp [Chn, allP]
  | cons q r ih =>
    intro s f hs
    have h1 := ih (s := (s + 1) % 64) (f := f + q.recs.length) (by omega)
    have e1 : ((s + 1) % 64 + (r.length : Int)) % 64 = (s + ((q :: r).length : Int)) % 64 := by simp; omega
    have e2 : f + (q.recs.length : Int) + ((allP r).length : Int) = f + ((allP (q :: r)).length : Int) := by unfold allP; simp; omega
    rw [e1, e2] at h1
    rw [List.cons_append, Chn, Chn, h1]
    constructor
    · rintro ⟨a, b, c, d, e⟩; exact ⟨⟨a, b, c, d⟩, e⟩
    · rintro ⟨⟨a, b, c, d⟩, e⟩; exact ⟨a, b, c, d, e⟩
theorem chn_no : ∀ {Q : List Prt} {s f : Int}, 0 ≤ s ∧ s < 64 → Chn s f Q → ∀ i (h : i < Q.length), Q[i].no = (s + i) % 64
  | q :: r, s, f, hs, h, 0, hi => by have h1 : q.no = s := h.1; simp [h1]; omega
  | q :: r, s, f, hs, h, i + 1, hi => by
    have := chn_no (s := (s + 1) % 64) (by omega) h.2.2.2 i (by simpa using hi)
    simp only [List.getElem_cons_succ]
    rw [this]; push_cast; omega
theorem chn_nodup {Q : List Prt} {s f : Int} (hs : 0 ≤ s ∧ s < 64) (h : Chn s f Q) (hl : Q.length ≤ 64) : (Q.map Prt.no).Nodup := by
  rw [List.nodup_iff_pairwise_ne, List.pairwise_iff_getElem]
  intro i j hi hj hij
  simp only [List.length_map] at hi hj
  rw [List.getElem_map, List.getElem_map, chn_no hs h i hi, chn_no hs h j hj]
  omega
theorem chn_rng {Q : List Prt} {s f : Int} (hs : 0 ≤ s ∧ s < 64) (h : Chn s f Q) : ∀ q ∈ Q, 0 ≤ q.no ∧ q.no < 64 := fun q hq => by
  obtain ⟨i, hi, rfl⟩ := List.getElem_of_mem hq
  rw [chn_no hs h i hi]; omega
def Dsc (Q : List Prt) (F : Nat) (D : Dk) (w : Prop) : Prop := (Q = [] ∧ D.fs = [] ∧ F = 0) ∨ ∃ Q0 q fa lo m, Q = Q0 ++ [q] ∧ D.fs = Q0.map whole ++ [⟨q.no, fa, lo⟩] ∧ (fa ++ lo) <+: body q ∧ (w → fa ++ lo = body q) ∧ m ≤ q.recs.length ∧ F ≤ (allP Q0).length + m ∧ (m = 0 ∨ headB q.first ++ cat (q.recs.take m) <+: fa)
structure Vir (s f : Int) (Q : List Prt) (F : Nat) (D : Dk) (w : Prop) : Prop where
  chn : Chn s f Q
  s0 : 0 ≤ s ∧ s < 64
  f0 : 0 ≤ f
  len : Q.length ≤ 63
  few : f + (allP Q).length ≤ 1000000000000
  dsc : Dsc Q F D w
  nil : Q = [] → s = 0 ∧ f = 0
  siz : ∀ q ∈ Q, q.size = (body q).length
structure Good (s f : Int) (L : Lg) (F : Nat) (D : Dk) : Prop where
  vir : Vir s f L.parts F D True
  size : ∀ q ∈ L.parts, q.size = (body q).length
  up : D.down = false
section
variable {s f : Int} {Q Q0 : List Prt} {q : Prt} {F : Nat} {D : Dk} {w : Prop} {fa lo : List Int} {L : Lg} {b : List Int}
theorem wh_n (Q : List Prt) : (Q.map whole).map Fil.n = Q.map Prt.no := by rw [List.map_map]; rfl
theorem last_apart (hs : 0 ≤ s ∧ s < 64) (h : Chn s f (Q0 ++ [q])) (hl : (Q0 ++ [q]).length ≤ 64) : ∀ x ∈ Q0.map whole, x.n ≠ q.no := fun x hx he => by
  have hn := chn_nodup hs h hl
  rw [List.map_append, List.nodup_append] at hn
  obtain ⟨p, hp, rfl⟩ := List.mem_map.1 hx
  exact hn.2.2 p.no (List.mem_map_of_mem hp) q.no (by simp) he
theorem vsync (h : Vir s f L.parts F D True) (hd : D.down = false) : (L.sync D).2 = 0 ∧ Vir s f L.parts (allP L.parts).length (L.sync D).1 True ∧ (L.sync D).1.down = false ∧ (L.sync D).1.armed = D.armed ∧ (L.sync D).1.left = D.left ∧ (L.sync D).1.room = D.room ∧ (L.sync D).1.used = D.used := by
  unfold Lg.sync
  rw [hd]
  simp only [Bool.false_eq_true, if_false]
  rcases h.dsc with ⟨hq, hf, rfl⟩ | ⟨Q0, q, fa, lo, m, hq, hf, hp, hw, hm, hF, hy⟩
  · rw [hq]
    simp only [List.getLast?_nil]
    exact ⟨by trivial, ⟨by rw [hq] at h; exact h.chn, h.s0, h.f0, by simp, by have := h.few; rw [hq] at this; exact this, .inl ⟨rfl, hf, rfl⟩, fun _ => h.nil hq, fun q hx => by simp at hx⟩, hd, by trivial, by trivial, by trivial, by trivial⟩
  · rw [hq, List.getLast?_concat]
    have hA := last_apart h.s0 (hq ▸ h.chn) (by have := h.len; rw [hq] at this; omega)
    have hg : D.get q.no = some ⟨q.no, fa, lo⟩ := get_mid hf hA
    have hs := setF_mid hf hA (by simp) (fa ++ lo) []
    simp only at hs
    have e : D.sync q.no = (D.setF q.no (fa ++ lo) [], 0) := by unfold Dk.sync; rw [hd, hg]; rfl
    simp only [e]
    rw [hw trivial] at hs ⊢
    refine ⟨by trivial, ⟨hq ▸ h.chn, h.s0, h.f0, hq ▸ h.len, hq ▸ h.few, .inr ⟨Q0, q, _, [], q.recs.length, rfl, hs, by simp, fun _ => by simp, Nat.le_refl _, by rw [allP_append, allP_one]; simp, .inr ?_⟩, fun h => by simp at h, hq ▸ h.siz⟩, hd, rfl, rfl, rfl, ?_⟩
    · rw [List.take_length]; exact List.prefix_rfl
    · unfold Dk.used
      rw [hs, hf, ← hw trivial]
      simp [Fil.len]
theorem vcrash (h : Vir s f Q F D w) (kl : List Int) : Vir s f Q F (D.crash kl) False ∧ (D.crash kl).down = false ∧ (D.crash kl).armed = false ∧ (D.crash kl).room = D.room := by
  rcases h.dsc with ⟨hq, hf, rfl⟩ | ⟨Q0, q, fa, lo, m, hq, hf, hp, hw, hm, hF, hy⟩
  · obtain ⟨h1, h2, h3, h4⟩ := crash_none hf kl
    exact ⟨⟨h.chn, h.s0, h.f0, h.len, h.few, .inl ⟨hq, h4, rfl⟩, h.nil, h.siz⟩, h2, h3, h1⟩
  · have hA := last_apart h.s0 (hq ▸ h.chn) (by have := h.len; rw [hq] at this; omega)
    have hnd : (D.fs.map Fil.n).Nodup := by
      rw [hf, List.map_append, wh_n]
      have := chn_nodup h.s0 h.chn (by have := h.len; omega)
      rw [hq, List.map_append] at this
      exact this
    obtain ⟨k, h1, h2, h3, h4⟩ := crash_last hf hA (fun x hx => by obtain ⟨p, _, rfl⟩ := List.mem_map.1 hx; rfl) hnd kl
    refine ⟨⟨h.chn, h.s0, h.f0, h.len, h.few, .inr ⟨Q0, q, _, [], m, hq, h4, ?_, fun h => h.elim, hm, hF, ?_⟩, h.nil, h.siz⟩, h2, h3, h1⟩
    · rw [List.append_nil]
      refine List.IsPrefix.trans ?_ hp
      exact (List.prefix_append_right_inj fa).2 (List.take_prefix _ _)
    · exact hy.imp id fun h => h.trans (List.prefix_append _ _)
end
end Go.Proofs.Ytkjhekflgghbdaa
set_option maxRecDepth 100000
namespace Go.Proofs.Ytkjhekflgghbdaa
open Go.Eng Go.Proofs.Ytkjhekflgghbdaa.Sint
/-- What an append of 'l' leaves: its beginning 't' at the file's end. -/
def Apd (D : Dk) (l : List Int) (fs : List Int → List Fil) (r : Dk × Int) : Prop := (r = (D, 9) ∧ D.room < D.used + l.length) ∨ ∃ E t, r = (E, if E.down then 10 else 0) ∧ E.fs = fs t ∧ t <+: l ∧ (E.down = false → t = l) ∧ E.room = D.room ∧ (D.armed = false → E.down = false ∧ E.armed = false)
section
variable {s f : Int} {Q Q0 : List Prt} {q : Prt} {F : Nat} {D : Dk} {w : Prop} {fa lo : List Int} {L : Lg} {b l : List Int} {A : List Fil} {k : Int}
theorem after_fs (D : Dk) (l : List Int) : (D.after l).fs = D.fs := by unfold Dk.after; split <;> rfl
theorem after_room (D : Dk) (l : List Int) : (D.after l).room = D.room := by unfold Dk.after; split <;> rfl
theorem after_armed (D : Dk) (l : List Int) : (D.after l).armed = D.armed := by unfold Dk.after; split <;> rfl
theorem takes_prefix (D : Dk) (l : List Int) : D.takes l <+: l := by
  unfold Dk.takes
  split
  · exact List.take_prefix _ _
  · exact List.prefix_rfl
theorem takes_all (hd : D.down = false) (h : (D.after l).down = false) : D.takes l = l := by
  unfold Dk.takes
  unfold Dk.after at h
  by_cases ha : D.armed = true
  · rw [if_pos ha] at h ⊢
    simp only [decide_eq_false_iff_not] at h
    exact List.take_of_length_le (by omega)
  · rw [if_neg ha]
theorem not_armed (hd : D.down = false) (h : D.armed = false) : (D.after l).down = false := by
  unfold Dk.after
  rw [h]
  simpa using hd
theorem app_gen {fs : List Int → List Fil} (hd : D.down = false) (hk : 0 ≤ k ∧ k < 64) (hp : ∃ E0 : Dk, D.put k l = E0.after l ∧ E0.fs = fs (D.takes l) ∧ E0.room = D.room ∧ E0.down = D.down ∧ E0.armed = D.armed ∧ E0.left = D.left) : Apd D l fs (D.append k l) := by
  unfold Dk.append
  rw [hd, if_neg (by simp), if_neg (by omega)]
  by_cases hr : D.room < D.used + l.length
  · rw [if_pos hr]; exact .inl ⟨rfl, hr⟩
  · rw [if_neg hr]
    obtain ⟨E0, h1, h2, h3, h4, h5, h6⟩ := hp
    have ht : E0.takes l = D.takes l := by unfold Dk.takes; rw [h5, h6]
    refine .inr ⟨_, D.takes l, rfl, by rw [h1, after_fs, h2], takes_prefix _ _, fun h => ?_, by rw [h1, after_room, h3], fun h => ?_⟩
    · rw [← ht]
      exact takes_all (h4.trans hd) (by rw [← h1]; exact h)
    · rw [h1]
      exact ⟨not_armed (h4.trans hd) (h5.trans h), (after_armed _ _).trans (h5.trans h)⟩
theorem app_new (hd : D.down = false) (hk : 0 ≤ k ∧ k < 64) (hA : ∀ x ∈ D.fs, x.n ≠ k) : Apd D l (fun t => D.fs ++ [⟨k, [], t⟩]) (D.append k l) := by
  refine app_gen hd hk ⟨(D.addF k).setF k [] (D.takes l), ?_, ?_, rfl, rfl, rfl, rfl⟩
  · unfold Dk.put; rw [get_no hA]
  · exact setF_mid (D := D.addF k) (A := D.fs) (f := ⟨k, [], []⟩) (B := []) rfl hA (by simp) [] (D.takes l)
theorem app_old (hd : D.down = false) (hk : 0 ≤ k ∧ k < 64) (h : D.fs = A ++ [⟨k, fa, lo⟩]) (hA : ∀ x ∈ A, x.n ≠ k) : Apd D l (fun t => A ++ [⟨k, fa, lo ++ t⟩]) (D.append k l) := by
  refine app_gen hd hk ⟨D.setF k fa (lo ++ D.takes l), ?_, ?_, rfl, rfl, rfl, rfl⟩
  · unfold Dk.put; rw [get_mid h hA]
  · exact setF_mid h hA (by simp) fa (lo ++ D.takes l)
/-- What an Append of a log leaves. -/
inductive App (s f : Int) (L : Lg) (F : Nat) (D : Dk) (b : List Int) : (Lg × Dk) × Int → Prop where
  | large : 8192 < b.length → App s f L F D b ((L, D), 4)
  | full (D' : Dk) : (63 ≤ L.parts.length ∨ D.room < D.used + (24 + b.length : Nat)) → Good s f L F D' → D'.room = D.room → D'.armed = D.armed → App s f L F D b ((L, D'), 9)
  | down (D' : Dk) (Q : List Prt) : D.armed = true → D'.down = true → Vir s f Q F D' False → allP Q = allP L.parts ++ [b] → D'.room = D.room → App s f L F D b ((L, D'), 10)
  | ok (L' : Lg) (D' : Dk) : Good s f L' F D' → allP L'.parts = allP L.parts ++ [b] → L'.parts.length ≤ L.parts.length + 1 → L'.parts ≠ [] → L'.most = L.most → D'.room = D.room → (D.armed = false → D'.armed = false) → D'.used ≤ D.used + (24 + b.length) → (∀ q, L.parts = [q] → q.size < L.most → L'.parts.length = 1) → App s f L F D b ((L', D'), 0)
theorem body_more (q : Prt) (b : List Int) : body (q.more b) = body q ++ frameF b := by
  unfold body Prt.more
  rw [cat_append, cat_one, List.append_assoc]
theorem body_one (no n : Int) (b : List Int) (z : Int) : body ⟨no, n, [b], z⟩ = headB n ++ frameF b := by unfold body; rw [cat_one]
theorem chn_last (h : Chn s f (Q0 ++ [q])) (hs : 0 ≤ s ∧ s < 64) : q.no = (s + Q0.length) % 64 ∧ q.first = f + (allP Q0).length ∧ ∀ d ∈ q.recs, d.length ≤ 8192 := by
  obtain ⟨_, h2⟩ := (chn_append hs).1 h
  exact ⟨h2.1, h2.2.1, h2.2.2.1⟩
theorem next_chn (h : Chn s f L.parts) (hs : 0 ≤ s ∧ s < 64) (h0 : L.parts = [] → f = 0) (hf0 : 0 ≤ f) (hf : f + (allP L.parts).length ≤ 1000000000000) : L.next = f + (allP L.parts).length := by
  unfold Lg.next
  rcases List.eq_nil_or_concat L.parts with hq | ⟨Q0, q, hq⟩
  · rw [hq]; simp [allP, h0 hq]
  · rw [List.concat_eq_append] at hq
    rw [hq, List.getLast?_concat]
    rw [hq] at h hf
    obtain ⟨_, h2, _⟩ := chn_last h hs
    rw [allP_append, allP_one] at hf ⊢
    simp only
    rw [h2, wrap_id (by omega) (by simp at hf; omega)]
    simp; omega
theorem dsc_le (h : Dsc Q F D w) : F ≤ (allP Q).length := by
  rcases h with ⟨_, _, rfl⟩ | ⟨Q0, q, fa, lo, m, rfl, _, _, _, hm, hF, _⟩
  · exact Nat.zero_le _
  · rw [allP_append, allP_one]; simp; omega
theorem vir_mono {F' : Nat} (h : Vir s f Q F D w) (hF : F' ≤ F) : Vir s f Q F' D w := by
  refine ⟨h.chn, h.s0, h.f0, h.len, h.few, ?_, h.nil, h.siz⟩
  rcases h.dsc with ⟨h1, h2, h3⟩ | ⟨Q0, q, fa, lo, m, h1, h2, h3, h4, h5, h6, h7⟩
  · exact .inl ⟨h1, h2, by omega⟩
  · exact .inr ⟨Q0, q, fa, lo, m, h1, h2, h3, h4, h5, by omega, h7⟩
theorem lnew {D0 : Dk} (h : Good s f L F D) (hfs : D.fs = L.parts.map whole) (hlen : L.parts.length ≤ 62) (hfew : f + (allP L.parts).length + 1 ≤ 1000000000000) (hb : b.length ≤ 8192) (hm : ∀ q, L.parts = [q] → L.most ≤ q.size) (hr : D.room = D0.room) (ha : D.armed = D0.armed) (hu : D.used = D0.used) {no : Int} (hno : no = (s + L.parts.length) % 64) : App s f L F D0 b (L.begin2 D b no) := by
  have hv := h.vir
  have hnx := next_chn hv.chn hv.s0 (fun h => (hv.nil h).2) hv.f0 hv.few
  unfold Lg.begin2
  have hbl : (headB L.next ++ frameF b).length = 24 + b.length := by rw [List.length_append, headB_len, frameF_len]; omega
  generalize hq' : (⟨no, L.next, [b], ((headB L.next ++ frameF b).length : Nat)⟩ : Prt) = q'
  have e1 : q'.no = no := by rw [← hq']
  have e2 : q'.first = L.next := by rw [← hq']
  have e3 : q'.recs = [b] := by rw [← hq']
  have e5 : body q' = headB L.next ++ frameF b := by rw [← hq', body_one]
  have e4 : q'.size = (body q').length := by rw [e5, ← hq']
  rw [← e5] at hbl ⊢
  have hch : Chn s f (L.parts ++ [q']) := (chn_append hv.s0).2 ⟨hv.chn, by rw [e1, hno], by rw [e2, hnx], by rw [e3]; simpa using hb, trivial⟩
  have hA := last_apart hv.s0 hch (by simp; omega)
  rw [← hfs, e1] at hA
  have hall : allP (L.parts ++ [q']) = allP L.parts ++ [b] := by rw [allP_append, allP_one, e3]
  have hF := dsc_le hv.dsc
  have hsz : ∀ x ∈ L.parts ++ [q'], x.size = (body x).length := fun x hx => by
    rcases List.mem_append.1 hx with hx | hx
    · exact h.size x hx
    · rw [List.mem_singleton.1 hx]; exact e4
  have hvir : ∀ {E : Dk} {t : List Int} {w : Prop}, E.fs = D.fs ++ [⟨no, [], t⟩] → t <+: body q' → (w → t = body q') → Vir s f (L.parts ++ [q']) F E w := fun {E t w} hE ht hw => ⟨hch, hv.s0, hv.f0, by simp; omega, by rw [hall]; simp; omega, .inr ⟨L.parts, q', [], t, 0, rfl, by rw [hE, hfs, e1], ht, hw, Nat.zero_le _, hF, .inl rfl⟩, fun h => by simp at h, hsz⟩
  rcases app_new (l := body q') h.up (by omega) hA with ⟨e, hx⟩ | ⟨E, t, e, hE, ht, htl, hrm, har⟩
  · rw [e, if_neg (by simp)]
    refine App.full D (.inr ?_) h hr ha
    rw [← hr, ← hu]
    omega
  · rw [e]
    cases hd : E.down with
    | true =>
      simp only [if_true]
      rw [if_neg (by simp)]
      refine App.down E _ ?_ hd (hvir hE ht fun h => h.elim) hall (hrm.trans hr)
      rw [← ha]
      cases hda : D.armed with
      | true => rfl
      | false => rw [(har hda).1] at hd; cases hd
    | false =>
      simp only [Bool.false_eq_true, if_false, if_true]
      have htl' := htl hd
      have hg : Good s f { L with parts := L.parts ++ [q'] } F E := ⟨hvir hE ht fun _ => htl', hsz, hd⟩
      refine App.ok { L with parts := L.parts ++ [q'] } E hg hall (by simp) (by simp) rfl (hrm.trans hr) (fun hx => (har (ha.trans hx)).2) ?_ fun q hq hsz => absurd (hm q hq) (by omega)
      rw [← hu]
      unfold Dk.used
      rw [hE, htl']
      simp [Fil.len]
      omega
theorem sync_fs (h : Good s f L F D) (hq : L.parts = Q0 ++ [q]) : ∃ D1, D.sync q.no = (D1, 0) ∧ D1.fs = L.parts.map whole ∧ Good s f L F D1 ∧ D1.room = D.room ∧ D1.armed = D.armed ∧ D1.used = D.used := by
  have hv := h.vir
  obtain ⟨h1, h2, h3, h4, h5, h6, h7⟩ := vsync hv h.up
  have e : L.sync D = D.sync q.no := by unfold Lg.sync; rw [h.up, hq, List.getLast?_concat]; rfl
  rw [e] at h1 h2 h3 h4 h5 h6 h7
  refine ⟨(D.sync q.no).1, by rw [← h1], ?_, ⟨vir_mono h2 (dsc_le hv.dsc), h.size, h3⟩, h6, h4, h7⟩
  rcases hv.dsc with ⟨hx, _⟩ | ⟨Q1, q1, fa, lo, m, hq1, hf, _, hw, _⟩
  · rw [hx] at hq; simp at hq
  · obtain ⟨rfl, hqq⟩ := List.append_inj' (hq.symm.trans hq1) rfl
    cases hqq
    have hA := last_apart hv.s0 (hq ▸ hv.chn) (by have := hv.len; rw [hq] at this; omega)
    have hs := setF_mid hf hA (by simp) (fa ++ lo) []
    have hg : D.get q.no = some ⟨q.no, fa, lo⟩ := get_mid hf hA
    have e2 : D.sync q.no = (D.setF q.no (fa ++ lo) [], 0) := by unfold Dk.sync; rw [h.up, hg]; rfl
    simp only at hs
    rw [e2, hs, hw trivial, hq]
    simp [whole]
theorem lapp (h : Good s f L F D) (hfew : f + (allP L.parts).length + 1 ≤ 1000000000000) : App s f L F D b (L.append D b) := by
  have hv := h.vir
  unfold Lg.append
  by_cases hb : 8192 < b.length
  · rw [if_pos hb]; exact App.large hb
  · rw [if_neg hb]
    rcases List.eq_nil_or_concat L.parts with hq | ⟨Q0, q, hq⟩
    · have hsf := hv.nil hq
      have hfs : D.fs = L.parts.map whole := by
        rcases hv.dsc with ⟨_, hf, _⟩ | ⟨Q1, q1, fa, lo, m, hq1, _⟩
        · rw [hf, hq]; rfl
        · rw [hq] at hq1; simp at hq1
      rw [show L.parts.getLast? = none by rw [hq]; rfl]
      unfold Lg.begin
      rw [show L.parts.getLast? = none by rw [hq]; rfl]
      exact lnew h hfs (by rw [hq]; simp) hfew (by omega) (fun q hx => by rw [hq] at hx; simp at hx) rfl rfl rfl (by rw [hq, hsf.1]; rfl)
    · rw [List.concat_eq_append] at hq
      have hgl : L.parts.getLast? = some q := by rw [hq, List.getLast?_concat]
      rw [hgl]
      simp only
      obtain ⟨cn, cf, cr⟩ := chn_last (hq ▸ hv.chn) hv.s0
      by_cases hm : L.most ≤ q.size
      · rw [if_pos hm]
        unfold Lg.begin
        rw [hgl]
        simp only
        by_cases h63 : 63 ≤ L.parts.length
        · rw [if_pos h63]
          exact App.full D (.inl h63) h rfl rfl
        · rw [if_neg h63]
          obtain ⟨D1, e1, e2, e3, e4, e5, e6⟩ := sync_fs h hq
          rw [e1, if_pos rfl]
          refine lnew e3 e2 (by omega) hfew (by omega) (fun q1 hx => ?_) e4 e5 e6 ?_
          · rw [hq] at hx
            have hx2 : Q0 ++ [q] = [] ++ [q1] := hx
            obtain ⟨_, hx3⟩ := List.append_inj' hx2 rfl
            cases hx3; exact hm
          · rw [cn, hq]; simp; omega
      · rw [if_neg hm]
        rcases hv.dsc with ⟨hx, _⟩ | ⟨Q1, q1, fa, lo, m, hq1, hf, _, hw, hmm, hF, hy⟩
        · rw [hx] at hq; simp at hq
        obtain ⟨rfl, hqq⟩ := List.append_inj' (hq.symm.trans hq1) rfl
        cases hqq
        have hl63 := hv.len
        have hA := last_apart hv.s0 (hq ▸ hv.chn) (by rw [hq] at hl63; omega)
        have hset : L.parts.set (L.parts.length - 1) (q.more b) = Q0 ++ [q.more b] := by
          rw [hq]; simp
        have hch : Chn s f (Q0 ++ [q.more b]) := (chn_append hv.s0).2 ⟨((chn_append hv.s0).1 (hq ▸ hv.chn)).1, cn, cf, fun d hd => by
          rcases List.mem_append.1 hd with hd | hd
          · exact cr d hd
          · rw [List.mem_singleton.1 hd]; omega, trivial⟩
        have hall : allP (Q0 ++ [q.more b]) = allP L.parts ++ [b] := by rw [hq, allP_append, allP_append, allP_one, allP_one, List.append_assoc]; rfl
        have hsz : ∀ x ∈ Q0 ++ [q.more b], x.size = (body x).length := fun x hx => by
          rcases List.mem_append.1 hx with hx | hx
          · exact h.size x (by rw [hq]; exact List.mem_append_left _ hx)
          · rw [List.mem_singleton.1 hx, body_more, List.length_append]
            have := h.size q (by rw [hq]; simp)
            show q.size + _ = _
            rw [this]; simp
        have hvir : ∀ {E : Dk} {t : List Int} {w : Prop}, E.fs = Q0.map whole ++ [⟨q.no, fa, lo ++ t⟩] → t <+: frameF b → (w → t = frameF b) → Vir s f (Q0 ++ [q.more b]) F E w := fun {E t w} hE ht hwt => by
          have ew : fa ++ (lo ++ t) = body q ++ t := by rw [← hw trivial, List.append_assoc]
          refine ⟨hch, hv.s0, hv.f0, by rw [hq] at hl63; simpa using hl63, by rw [hall]; simp; omega, .inr ⟨Q0, q.more b, fa, lo ++ t, m, rfl, hE, ?_, fun hh => ?_, ?_, hF, ?_⟩, fun h => by simp at h, hsz⟩
          · rw [ew, body_more]; exact (List.prefix_append_right_inj _).2 ht
          · rw [ew, body_more, hwt hh]
          · unfold Prt.more; simp; omega
          · refine hy.imp id fun hy => ?_
            have : (q.more b).recs.take m = q.recs.take m := by unfold Prt.more; exact List.take_append_of_le_length hmm
            rw [this]
            exact hy
        rcases app_old (l := frameF b) h.up (chn_rng hv.s0 hv.chn q (by rw [hq]; simp)) hf hA with ⟨e, hx⟩ | ⟨E, t, e, hE, ht, htl, hrm, har⟩
        · rw [e, if_neg (by simp)]
          refine App.full D (.inr ?_) h rfl rfl
          rw [frameF_len] at hx
          omega
        · rw [e]
          cases hd : E.down with
          | true =>
            simp only [if_true]
            rw [if_neg (by simp)]
            refine App.down E _ ?_ hd (hvir hE ht fun h => h.elim) hall hrm
            cases hda : D.armed with
            | true => rfl
            | false => rw [(har hda).1] at hd; cases hd
          | false =>
            simp only [Bool.false_eq_true, if_false, if_true]
            rw [hset]
            have htl' := htl hd
            have hg : Good s f { L with parts := Q0 ++ [q.more b] } F E := ⟨hvir hE ht fun _ => htl', hsz, hd⟩
            refine App.ok { L with parts := Q0 ++ [q.more b] } E hg hall (by rw [hq]; simp) (by simp) rfl hrm (fun hx => (har hx).2) ?_ fun q1 hx _ => ?_
            · unfold Dk.used
              rw [hE, hf, htl']
              simp [Fil.len, frameF_len]
              omega
            · rw [hq] at hx
              have := congrArg List.length hx
              simpa using this
end
end Go.Proofs.Ytkjhekflgghbdaa
set_option maxRecDepth 100000
namespace Go.Proofs.Ytkjhekflgghbdaa
open Go.Eng Go.Proofs.Ytkjhekflgghbdaa.Sint
def up (a : Int) (c : Nat) : List Int := (List.range c).map fun i : Nat => a + (i : Int)
theorem up_len (a : Int) (c : Nat) : (up a c).length = c := by simp [up]
theorem up_get (a : Int) (c : Nat) (i : Nat) (h : i < (up a c).length) : (up a c)[i] = a + i := by simp [up]
theorem mem_up {a x : Int} {c : Nat} : x ∈ up a c ↔ a ≤ x ∧ x < a + c := by
  simp only [up, List.mem_map, List.mem_range]
  constructor
  · rintro ⟨i, hi, rfl⟩; omega
  · rintro ⟨h1, h2⟩; exact ⟨(x - a).toNat, by omega, by omega⟩
theorem up_sorted (a : Int) (c : Nat) : (up a c).Pairwise (· ≤ ·) := by
  rw [List.pairwise_iff_getElem]
  intro i j hi hj hij
  rw [up_get, up_get]; omega
theorem srtd_eq {l l' : List Int} (h : l.Pairwise (· ≤ ·)) (hp : l'.Perm l) : srtd l' = l := by
  have hs : (srtd l').Pairwise fun a b => decide (a ≤ b) = true := List.pairwise_mergeSort (fun a b c h1 h2 => by simp at *; omega) (fun a b => by simp; omega) l'
  exact List.Perm.eq_of_pairwise (fun a b _ _ h1 h2 => by simp at h1 h2; omega) hs (h.imp fun h => by simpa using h) ((srtd_perm l').trans hp)
theorem orderG_none {ns : List Int} (h : ∀ i (hi : i < ns.length), 0 < i → (ns[i] + 63) % 64 ∈ ns) : ∀ f i, orderG ns f i = ns
  | 0, _ => rfl
  | f + 1, i => by
    rw [orderG]
    cases hg : ns[i]? with
    | none => rfl
    | some n =>
      obtain ⟨hi, rfl⟩ := List.getElem?_eq_some_iff.1 hg
      simp only
      rw [if_neg (fun hx => hx.2 (h i hi hx.1))]
      exact orderG_none h f (i + 1)
theorem orderG_stop {ns : List Int} {j : Nat} (hj : j < ns.length) (hj0 : 0 < j) (h : ∀ i (hi : i < ns.length), 0 < i → i < j → (ns[i] + 63) % 64 ∈ ns) (hn : (ns[j] + 63) % 64 ∉ ns) : ∀ f i, i ≤ j → j < i + f → orderG ns f i = ns.drop j ++ ns.take j
  | 0, i, h1, h2 => by omega
  | f + 1, i, h1, h2 => by
    rw [orderG, List.getElem?_eq_getElem (by omega)]
    simp only
    by_cases hij : i = j
    · subst hij
      rw [if_pos ⟨hj0, hn⟩]
    · rw [if_neg (fun hx => hx.2 (h i (by omega) hx.1 (by omega)))]
      exact orderG_stop hj hj0 h hn f (i + 1) (by omega) (by omega)
def ringN (s : Int) (n : Nat) : List Int := (List.range n).map fun i : Nat => (s + (i : Int)) % 64
theorem order_ring {s : Int} {n : Nat} (hs : 0 ≤ s ∧ s < 64) (hn : n ≤ 63) : orderF (srtd (ringN s n)) = ringN s n := by
  by_cases hw : s + n ≤ 64
  · have e : ringN s n = up s n := by
      unfold ringN up
      exact List.map_congr_left fun i hi => by rw [List.mem_range] at hi; omega
    rw [e, srtd_eq (up_sorted s n) (List.Perm.refl _)]
    refine orderG_none (fun i hi h0 => ?_) _ _
    rw [up_get, mem_up]
    rw [up_len] at hi
    omega
  · obtain ⟨a, ha⟩ : ∃ a : Nat, (a : Int) = s + n - 64 := ⟨(s + n - 64).toNat, by omega⟩
    obtain ⟨c, hc⟩ : ∃ c : Nat, (c : Int) = 64 - s := ⟨(64 - s).toNat, by omega⟩
    have e : ringN s n = up s c ++ up 0 a := by
      apply List.ext_getElem
      · simp [ringN, up_len]; omega
      · intro i h1 h2
        rw [List.getElem_append]
        simp only [ringN, List.length_map, List.length_range] at h1
        have el : (ringN s n)[i]'(by simpa [ringN] using h1) = (s + i) % 64 := by simp [ringN]
        rw [el]
        split
        · rename_i h; rw [up_get]; rw [up_len] at h; omega
        · rename_i h; rw [up_get]; rw [up_len] at h ⊢; omega
    have hsrt : srtd (ringN s n) = up 0 a ++ up s c := by
      refine srtd_eq ?_ (by rw [e]; exact List.perm_append_comm)
      rw [List.pairwise_append]
      refine ⟨up_sorted _ _, up_sorted _ _, fun x hx y hy => ?_⟩
      rw [mem_up] at hx hy
      omega
    rw [hsrt]
    have hlen : (up 0 a ++ up s c).length = a + c := by simp [up_len]
    have hmem : ∀ x, x ∈ up 0 a ++ up s c ↔ (0 ≤ x ∧ x < a) ∨ (s ≤ x ∧ x < 64) := fun x => by
      rw [List.mem_append, mem_up, mem_up]; omega
    have hga : (up 0 a ++ up s c)[a]'(by rw [hlen]; omega) = s := by
      rw [List.getElem_append_right (by rw [up_len]; omega), up_get]; simp [up_len]
    have := orderG_stop (ns := up 0 a ++ up s c) (j := a) (by rw [hlen]; omega) (by omega) (fun i hi h0 hia => by
      rw [hmem, List.getElem_append_left (by rw [up_len]; exact hia), up_get]; omega) (by rw [hmem, hga]; omega) (up 0 a ++ up s c).length 0 (Nat.zero_le _) (by rw [hlen]; omega)
    unfold orderF
    rw [this, e, List.drop_left' (up_len _ _), List.take_left' (up_len _ _)]
theorem chn_ring {Q : List Prt} {s f : Int} (hs : 0 ≤ s ∧ s < 64) (h : Chn s f Q) : Q.map Prt.no = ringN s Q.length := by
  apply List.ext_getElem
  · simp [ringN]
  · intro i h1 h2
    simp only [List.length_map] at h1
    rw [List.getElem_map, chn_no hs h i h1]
    simp [ringN]
theorem chn_order {Q : List Prt} {s f : Int} {D : Dk} (hs : 0 ≤ s ∧ s < 64) (h : Chn s f Q) (hl : Q.length ≤ 63) (hd : D.keys = Q.map Prt.no) : orderF D.files = Q.map Prt.no := by
  unfold Dk.files
  rw [hd, chn_ring hs h, order_ring hs hl]
theorem lapp_down {L : Lg} {D : Dk} {b : List Int} (hd : D.down = true) : ∃ k, L.append D b = ((L, D), k) ∧ k ≠ 0 := by
  have ha : ∀ k l, D.append k l = (D, 10) := fun k l => by unfold Dk.append; rw [hd]; rfl
  have hs : ∀ k, D.sync k = (D, 10) := fun k => by unfold Dk.sync; rw [hd]; rfl
  have h2 : ∀ no, L.begin2 D b no = ((L, D), 10) := fun no => by unfold Lg.begin2; rw [ha]; rfl
  unfold Lg.append
  split
  · exact ⟨4, rfl, by decide⟩
  · cases hg : L.parts.getLast? with
    | none => unfold Lg.begin; rw [hg]; exact ⟨10, h2 _, by decide⟩
    | some q =>
      simp only
      split
      · unfold Lg.begin
        rw [hg]
        simp only
        split
        · exact ⟨9, rfl, by decide⟩
        · rw [hs]; exact ⟨10, rfl, by decide⟩
      · rw [ha]; exact ⟨10, rfl, by decide⟩
end Go.Proofs.Ytkjhekflgghbdaa
set_option maxRecDepth 100000
namespace Go.Proofs.Ytkjhekflgghbdaa
open Go.Eng Go.Proofs.Ytkjhekflgghbdaa.Sint
section
variable {s f : Int} {Q Q0 : List Prt} {q : Prt} {F : Nat} {D : Dk} {w : Prop} {fa lo : List Int} {L : Lg} {b l : List Int} {A B : List Fil} {k : Int}
theorem headR_len (n : Int) : (headR n).length = 8 := put64_len _
theorem headR_back {n : Int} (h0 : 0 ≤ n) (h1 : n ≤ 1000000000000) : IntKind.i64.wrap (u64F (headR n)) = n := by
  unfold headR
  rw [wrap_u64 h0 (by omega)]
  obtain ⟨m, rfl⟩ : ∃ m : Nat, n = m := ⟨n.toNat, by omega⟩
  have := u64_put64 (n := m) (by omega) []
  rw [List.append_nil] at this
  rw [this, wrap_id (by omega) (by omega)]
theorem read_mid (hd : D.down = false) (h : D.fs = A ++ ⟨k, fa, lo⟩ :: B) (hA : ∀ x ∈ A, x.n ≠ k) : D.read k = (fa ++ lo, 0) := by
  unfold Dk.read
  rw [hd, get_mid h hA]
  rfl
theorem all_body (hr : ∀ d ∈ q.recs, d.length ≤ 8192) {p : List Int} (hp : Torn p) : allF (body q ++ p) = (headR q.first :: q.recs, (body q).length) := by
  rw [body_cat]
  exact allF_cat (fun d hd => by
    rcases List.mem_cons.1 hd with rfl | hd
    · rw [headR_len]; omega
    · exact hr d hd) hp
theorem load_body (hd : D.down = false) (h : D.fs = A ++ ⟨q.no, fa, lo⟩ :: B) (hA : ∀ x ∈ A, x.n ≠ q.no) (hc : fa ++ lo = body q) (hr : ∀ d ∈ q.recs, d.length ≤ 8192) (h0 : 0 ≤ q.first) (h1 : q.first ≤ 1000000000000) (hz : q.size = (body q).length) (last : Bool) : loadF D q.no last = ((D, some q), 0) := by
  unfold loadF
  have ha := all_body hr torn_nil
  rw [List.append_nil] at ha
  rw [read_mid hd h hA]
  simp only [hc, ha]
  have e : loadQ q.no (headR q.first :: q.recs, (body q).length) = q := by
    unfold loadQ
    simp only [List.headD_cons, List.tail_cons]
    rw [headR_back h0 h1, ← hz]
  rw [if_neg (by simp), if_neg (by simp), if_neg (by simp), if_neg (by simp [headR_len]), if_neg (by omega), e]
/-- A beginning of a part's bytes. -/
theorem body_pre {c : List Int} (hr : ∀ d ∈ q.recs, d.length ≤ 8192) (hc : c <+: body q) : (Torn c ∧ c.length < (headB q.first).length) ∨ ∃ j p, j ≤ q.recs.length ∧ c = headB q.first ++ cat (q.recs.take j) ++ p ∧ Torn p ∧ (c = body q → j = q.recs.length ∧ p = []) ∧ ∀ m, m ≤ q.recs.length → (headB q.first ++ cat (q.recs.take m)).length ≤ c.length → m ≤ j := by
  obtain ⟨r, he⟩ := hc
  rw [body_cat] at he
  have hd : ∀ d ∈ headR q.first :: q.recs, d.length ≤ 8192 := fun d hd => by
    rcases List.mem_cons.1 hd with rfl | hd
    · rw [headR_len]; omega
    · exact hr d hd
  obtain ⟨j, p, h1, h2, h3, h4, h5⟩ := cat_prefix hd he
  cases j with
  | zero =>
    have hcp : c = p := by rw [h2]; simp [cat]
    subst hcp
    exact .inl ⟨h3, h5 (by simp)⟩
  | succ j =>
    have h1' : j ≤ q.recs.length := by simpa using h1
    have e : cat ((headR q.first :: q.recs).take (j + 1)) = headB q.first ++ cat (q.recs.take j) := by
      rw [List.take_succ_cons]; simp [cat, headB, headR]
    rw [e] at h2
    have hlen : ∀ m, m ≤ q.recs.length → (headB q.first ++ cat (q.recs.take m)).length ≤ c.length → m ≤ j := fun m hm hl => by
      by_cases hjm : m ≤ j
      · exact hjm
      · exfalso
        have hjl : j < q.recs.length := by omega
        have hp := h5 (by simpa using hjl)
        simp only [List.getElem_cons_succ] at hp
        have h6 : (cat (q.recs.take (j + 1))).length ≤ (cat (q.recs.take m)).length := cat_take_len (by omega)
        have e6 : cat (q.recs.take (j + 1)) = cat (q.recs.take j) ++ frameF q.recs[j] := by rw [List.take_succ_eq_append_getElem hjl, cat_append, cat_one]
        rw [e6] at h6
        rw [h2] at hl
        simp only [List.length_append] at hl h6
        omega
    refine .inr ⟨j, p, h1', h2, h3, fun hb => ?_, hlen⟩
    have : q.recs.length ≤ j := hlen _ (Nat.le_refl _) (by rw [hb, List.take_length]; exact Nat.le_refl _)
    have hj : j = q.recs.length := by omega
    exact ⟨hj, h4 (by simp; omega)⟩
theorem all_torn {c : List Int} (h : Torn c) : allF c = ([], 0) := by
  have := allF_cat (ds := []) (fun d hd => by simp at hd) h
  simpa [cat] using this
/-- The last file, loaded. -/
theorem load_last (hd : D.down = false) (h : D.fs = A ++ [⟨q.no, fa, lo⟩]) (hA : ∀ x ∈ A, x.n ≠ q.no) (hc : (fa ++ lo) <+: body q) (hr : ∀ d ∈ q.recs, d.length ≤ 8192) (h0 : 0 ≤ q.first) (h1 : q.first ≤ 1000000000000) (hz : q.size = (body q).length) :
    ((fa ++ lo).length < (headB q.first).length ∧ ∃ D', loadF D q.no true = ((D', none), 0) ∧ D'.fs = A ∧ D'.room = D.room ∧ D'.armed = D.armed ∧ D'.down = false) ∨
    ∃ (j : Nat) (q' : Prt) (D' : Dk) (fa' lo' : List Int), j ≤ q.recs.length ∧ loadF D q.no true = ((D', some q'), 0) ∧ D'.fs = A ++ [⟨q.no, fa', lo'⟩] ∧ fa' ++ lo' = body q' ∧ q'.no = q.no ∧ q'.first = q.first ∧ q'.recs = q.recs.take j ∧ q'.size = (body q').length ∧ D'.room = D.room ∧ D'.armed = D.armed ∧ D'.down = false ∧ fa'.length + lo'.length ≤ fa.length + lo.length ∧
      (fa ++ lo = body q → D' = D ∧ q' = q ∧ j = q.recs.length) ∧ (∀ m, m ≤ q.recs.length → (headB q.first ++ cat (q.recs.take m)).length ≤ (fa ++ lo).length → m ≤ j) := by
  have hg : D.get q.no = some ⟨q.no, fa, lo⟩ := get_mid h hA
  have hrd : D.read q.no = (fa ++ lo, 0) := read_mid (B := []) hd h hA
  rcases body_pre hr hc with ⟨ht, hl⟩ | ⟨j, p, hj, hcc, hp, hb, hm⟩
  · refine .inl ⟨hl, D.rem q.no, ?_, ?_, rfl, rfl, hd⟩
    · unfold loadF
      rw [hrd]
      simp only [all_torn ht]
      rw [if_neg (by simp), if_neg (by simp), if_pos (by simp)]
      unfold Dk.remove
      rw [hd, hg]
      rfl
    · have := rem_mid (B := []) h hA (by simp)
      simpa using this
  · by_cases hbody : fa ++ lo = body q
    · refine .inr ⟨q.recs.length, q, D, fa, lo, Nat.le_refl _, load_body hd h hA hbody hr h0 h1 hz true, h, hbody, rfl, rfl, by simp, hz, rfl, rfl, hd, Nat.le_refl _, fun _ => ⟨rfl, rfl, rfl⟩, fun m hm _ => hm⟩
    · obtain ⟨q', hq'⟩ : ∃ q' : Prt, q' = ⟨q.no, q.first, q.recs.take j, ((headB q.first ++ cat (q.recs.take j)).length : Nat)⟩ := ⟨_, rfl⟩
      have e1 : q'.no = q.no := by rw [hq']
      have e2 : q'.first = q.first := by rw [hq']
      have e3 : q'.recs = q.recs.take j := by rw [hq']
      have e4 : body q' = headB q.first ++ cat (q.recs.take j) := by unfold body; rw [e2, e3]
      have e5 : q'.size = (body q').length := by rw [e4, hq']
      have hcc' : fa ++ lo = body q' ++ p := by rw [hcc, e4]
      have hr' : ∀ d ∈ q'.recs, d.length ≤ 8192 := fun d hd => hr d (by rw [e3] at hd; exact List.mem_of_mem_take hd)
      have ha := all_body hr' hp
      have eq : loadQ q.no (headR q'.first :: q'.recs, (body q').length) = q' := by
        unfold loadQ
        simp only [List.headD_cons, List.tail_cons]
        rw [e2, headR_back h0 h1, ← e5, e3, hq']
      by_cases hpn : p = []
      · subst hpn
        rw [List.append_nil] at ha hcc'
        refine .inr ⟨j, q', D, fa, lo, hj, ?_, h, hcc', e1, e2, e3, e5, rfl, rfl, hd, Nat.le_refl _, fun hx => absurd hx hbody, hm⟩
        unfold loadF
        rw [hrd]
        simp only [hcc', ha]
        rw [if_neg (by simp), if_neg (by simp), if_neg (by simp), if_neg (by simp [headR_len]), if_neg (by omega), eq]
      · have hplen : 0 < p.length := List.length_pos_iff.2 hpn
        have hs := setF_mid h hA (by simp) (body q') []
        simp only at hs
        have hcut : D.cut q.no ((body q').length : Nat) = (D.setF q.no (body q') [], 0) := by
          unfold Dk.cut
          rw [hd, hg]
          simp only [Bool.false_eq_true, if_false]
          have hl : (fa.length + lo.length : Nat) = (body q').length + p.length := by rw [← List.length_append, ← List.length_append, hcc']
          rw [if_neg (by omega), Int.toNat_natCast, hcc', List.take_left' rfl]
        refine .inr ⟨j, q', D.setF q.no (body q') [], body q', [], hj, ?_, hs, by simp, e1, e2, e3, e5, rfl, rfl, hd, by have := congrArg List.length hcc'; simp only [List.length_append] at this; simp; omega, fun hx => absurd hx hbody, hm⟩
        unfold loadF
        rw [hrd]
        simp only [hcc', ha, hcut]
        rw [if_neg (by simp), if_neg (by simp), if_neg (by simp), if_neg (by simp [headR_len]), if_pos (by rw [List.length_append]; omega), if_neg (by simp), eq]
end
end Go.Proofs.Ytkjhekflgghbdaa
set_option maxRecDepth 100000
namespace Go.Proofs.Ytkjhekflgghbdaa
open Go.Eng Go.Proofs.Ytkjhekflgghbdaa.Sint
section
variable {s f : Int} {Q Q0 : List Prt} {q : Prt} {F : Nat} {D : Dk} {w : Prop} {fa lo : List Int} {L : Lg} {b l : List Int} {A B : List Fil} {k : Int}
theorem nextOf_chn {acc : List Prt} (h : Chn s f acc) (hs : 0 ≤ s ∧ s < 64) (hne : acc ≠ []) (hf0 : 0 ≤ f) (hf : f + (allP acc).length ≤ 1000000000000) : nextOf acc = f + (allP acc).length :=
  next_chn (L := ⟨0, acc⟩) h hs (fun h => absurd h hne) hf0 hf
theorem open_pre (hd : D.down = false) (hs : 0 ≤ s ∧ s < 64) (hf0 : 0 ≤ f) : ∀ (Q1 acc : List Prt), Chn s f (acc ++ Q1 ++ [q]) → (acc ++ Q1 ++ [q]).length ≤ 63 → f + (allP (acc ++ Q1 ++ [q])).length ≤ 1000000000000 → (∀ x ∈ Q1, x.size = (body x).length) → D.fs = (acc ++ Q1).map whole ++ B → openG (Q1.map Prt.no ++ [k]) D acc = openG [k] D (acc ++ Q1)
  | [], acc, _, _, _, _, _ => by simp
  | q1 :: Q1, acc, hc, hl, hfew, hz, hfs => by
    have e0 : acc ++ q1 :: Q1 ++ [q] = (acc ++ [q1]) ++ Q1 ++ [q] := by simp
    have e1 : acc ++ q1 :: Q1 ++ [q] = (acc ++ [q1]) ++ (Q1 ++ [q]) := by simp
    have e2 : acc ++ q1 :: Q1 ++ [q] = acc ++ (q1 :: Q1 ++ [q]) := by simp
    have hc1 : Chn s f (acc ++ [q1]) := ((chn_append hs).1 (e1 ▸ hc)).1
    have hl1 : (acc ++ [q1]).length ≤ 64 := by rw [e1, List.length_append] at hl; omega
    obtain ⟨_, cf, cr⟩ := chn_last hc1 hs
    have hA := last_apart hs hc1 hl1
    have hfew1 : f + ((allP acc).length : Int) ≤ 1000000000000 := by rw [e2, allP_append, List.length_append] at hfew; omega
    have hld := load_body (A := acc.map whole) (B := Q1.map whole ++ B) (fa := body q1) (lo := []) hd (by rw [hfs]; simp [whole]) hA (by simp) cr (by omega) (by omega) (hz q1 (by simp)) false
    have ih := open_pre hd hs hf0 Q1 (acc ++ [q1]) (e0 ▸ hc) (e0 ▸ hl) (e0 ▸ hfew) (fun x hx => hz x (by simp [hx])) (by rw [hfs]; simp)
    rw [List.map_cons, List.cons_append, openG]
    have hem : (Q1.map Prt.no ++ [k]).isEmpty = false := by simp
    rw [hem, hld]
    simp only [ne_eq, not_true_eq_false, if_false]
    have hfirst : ¬ (¬ acc = [] ∧ ¬ q1.first = nextOf acc) := fun hx => hx.2 (by
      rw [nextOf_chn ((chn_append hs).1 hc1).1 hs hx.1 hf0 hfew1, cf])
    rw [if_neg hfirst, ih]
    simp
/-- What Open finds. -/
theorem vopen (h : Vir s f Q F D w) (hd : D.down = false) {most : Int} (hm : 64 ≤ most ∧ most ≤ 1048576) :
    ∃ (s' f' : Int) (Q' : List Prt) (D' : Dk), openF D most = ((D', some Q'), 0) ∧ Good s' f' ⟨most, Q'⟩ 0 D' ∧ D'.armed = D.armed ∧ D'.room = D.room ∧ (∃ j, allP Q' = (allP Q).take j) ∧ F ≤ (allP Q').length ∧ (s = 0 → f = 0 → s' = 0 ∧ f' = 0) ∧ (w → D' = D ∧ Q' = Q ∧ s' = s ∧ f' = f) ∧ Q'.length ≤ Q.length ∧ D'.used ≤ D.used := by
  unfold openF
  rw [if_neg (by omega), hd]
  simp only [Bool.false_eq_true, if_false]
  rcases h.dsc with ⟨hq, hf, rfl⟩ | ⟨Q0, q, fa, lo, m, hq, hf, hp, hw, hmm, hF, hy⟩
  · have hfl : D.files = [] := by unfold Dk.files Dk.keys; rw [hf]; exact List.perm_nil.1 (srtd_perm [])
    have ho : orderF ([] : List Int) = [] := rfl
    rw [hfl, ho, hq]
    obtain ⟨rfl, rfl⟩ := h.nil hq
    exact ⟨0, 0, [], D, rfl, ⟨⟨trivial, by omega, by omega, by simp, by simp [allP], .inl ⟨rfl, hf, rfl⟩, fun _ => ⟨rfl, rfl⟩, fun q hx => by simp at hx⟩, fun q hx => by simp at hx, hd⟩, rfl, rfl, ⟨0, rfl⟩, Nat.zero_le _, fun _ _ => ⟨rfl, rfl⟩, fun _ => ⟨rfl, rfl, rfl, rfl⟩, by simp, Nat.le_refl _⟩
  · have hs := h.s0
    have hf0 := h.f0
    have hl := h.len
    have hfew := h.few
    have hc := h.chn
    have hsz := h.siz
    have hk : D.keys = Q.map Prt.no := by unfold Dk.keys; rw [hf, hq, List.map_append, wh_n, List.map_append]; rfl
    rw [chn_order hs hc hl hk]
    subst hq
    have hA := last_apart hs hc (by omega)
    obtain ⟨cn, cf, cr⟩ := chn_last hc hs
    have hfew0 : f + ((allP Q0).length : Int) ≤ 1000000000000 := by rw [allP_append, List.length_append] at hfew; omega
    have hpre := open_pre (k := q.no) (B := [⟨q.no, fa, lo⟩]) hd hs hf0 Q0 [] hc hl hfew (fun x hx => hsz x (by simp [hx])) hf
    rw [List.nil_append] at hpre
    rw [List.map_append, List.map_cons, List.map_nil, hpre, openG]
    rcases load_last hd hf hA hp cr (by omega) (by omega) (hsz q (by simp)) with ⟨hlen, D', e1, e2, e3, e4, e5⟩ | ⟨j, q', D', fa', lo', hj, e1, e2, e3, e4, e5, e6, e7, e8, e9, e10, e13, e11, e12⟩
    · have hem : ([] : List Int).isEmpty = true := rfl
      rw [hem, e1]
      simp only [ne_eq, not_true_eq_false, if_false, openG]
      have hm0 : m = 0 := by
        rcases hy with hy | hy
        · exact hy
        · have := hy.length_le
          simp only [List.length_append] at this hlen
          omega
      have hnw : ¬ w := fun hx => by
        have hbl : (body q).length = (headB q.first).length + (cat q.recs).length := by unfold body; rw [List.length_append]
        have := congrArg List.length (hw hx)
        omega
      have hc0 := ((chn_append hs).1 hc).1
      have hsz0 : ∀ x ∈ Q0, x.size = (body x).length := fun x hx => hsz x (by simp [hx])
      have hall : allP Q0 = (allP (Q0 ++ [q])).take (allP Q0).length := by rw [allP_append, List.take_left' rfl]
      have hlen0 : Q0.length ≤ 63 := by rw [List.length_append] at hl; omega
      rcases List.eq_nil_or_concat Q0 with hq0 | ⟨Q1, q1, hq0⟩
      · subst hq0
        refine ⟨0, 0, [], D', rfl, ⟨⟨trivial, by omega, by omega, by simp, by simp [allP], .inl ⟨rfl, e2, rfl⟩, fun _ => ⟨rfl, rfl⟩, fun q hx => by simp at hx⟩, fun q hx => by simp at hx, e5⟩, e4, e3, ⟨_, hall⟩, ?_, fun _ _ => ⟨rfl, rfl⟩, fun hx => absurd hx hnw, by simp, by unfold Dk.used; rw [e2, hf]; simp⟩
        omega
      · rw [List.concat_eq_append] at hq0
        subst hq0
        refine ⟨s, f, Q1 ++ [q1], D', rfl, ⟨⟨hc0, hs, hf0, hlen0, hfew0, .inr ⟨Q1, q1, body q1, [], 0, rfl, by rw [e2]; simp [whole], by simp, fun _ => by simp, Nat.zero_le _, Nat.zero_le _, .inl rfl⟩, fun hx => by simp at hx, hsz0⟩, hsz0, e5⟩, e4, e3, ⟨_, hall⟩, by omega, fun a b => ⟨a, b⟩, fun hx => absurd hx hnw, by simp, by unfold Dk.used; rw [e2, hf]; simp⟩
    · have hem : ([] : List Int).isEmpty = true := rfl
      rw [hem, e1]
      simp only [ne_eq, not_true_eq_false, if_false]
      have hfirst : ¬ (¬ Q0 = [] ∧ ¬ q'.first = nextOf Q0) := fun hx => hx.2 (by
        rw [nextOf_chn ((chn_append hs).1 hc).1 hs hx.1 hf0 hfew0, e5, cf])
      rw [if_neg hfirst, openG]
      have hc' : Chn s f (Q0 ++ [q']) := (chn_append hs).2 ⟨((chn_append hs).1 hc).1, by rw [e4, cn], by rw [e5, cf], fun d hd => cr d (by rw [e6] at hd; exact List.mem_of_mem_take hd), trivial⟩
      have hsz' : ∀ x ∈ Q0 ++ [q'], x.size = (body x).length := fun x hx => by
        rcases List.mem_append.1 hx with hx | hx
        · exact hsz x (by simp [hx])
        · rw [List.mem_singleton.1 hx]; exact e7
      have hall : allP (Q0 ++ [q']) = (allP (Q0 ++ [q])).take ((allP Q0).length + j) := by
        rw [allP_append Q0 [q'], allP_append Q0 [q], allP_one, allP_one, e6, List.take_append, List.take_of_length_le (l := allP Q0) (by omega), Nat.add_sub_cancel_left]
      have hjl : (allP (Q0 ++ [q'])).length = (allP Q0).length + j := by rw [allP_append, allP_one, e6]; simp; omega
      have hql : (allP (Q0 ++ [q])).length = (allP Q0).length + q.recs.length := by rw [allP_append, allP_one]; simp
      refine ⟨s, f, Q0 ++ [q'], D', rfl, ⟨⟨hc', hs, hf0, by simpa using hl, by rw [hjl]; rw [hql] at hfew; omega, .inr ⟨Q0, q', fa', lo', 0, rfl, by rw [e2, e4], by rw [e3]; exact List.prefix_rfl, fun _ => e3, Nat.zero_le _, Nat.zero_le _, .inl rfl⟩, fun hx => by simp at hx, hsz'⟩, hsz', e10⟩, e9, e8, ⟨_, hall⟩, ?_, fun a b => ⟨a, b⟩, fun hx => ?_, by simp, by unfold Dk.used; rw [e2, hf]; simp [Fil.len]; omega⟩
      · rw [hjl]
        have : m ≤ j := by
          rcases hy with hy | hy
          · omega
          · exact e12 m hmm (by have := hy.length_le; simp only [List.length_append] at this ⊢; omega)
        omega
      · obtain ⟨a, b, _⟩ := e11 (hw hx)
        exact ⟨a, by rw [b], rfl, rfl⟩
end
end Go.Proofs.Ytkjhekflgghbdaa
set_option maxRecDepth 100000
namespace Go.Proofs.Ytkjhekflgghbdaa
open Go.Eng Go.Proofs.Ytkjhekflgghbdaa.Sint
def exQ : Prt := ⟨0, 0, [[97]], 25⟩
def exD (fs : List Fil) : Dk := ⟨1000, 0, false, false, fs⟩
theorem exBody : (body exQ).length = 25 := by unfold body exQ; rw [cat_one, List.length_append, headB_len, frameF_len]; rfl
theorem ex_open0 : openF (exD []) 64 = ((exD [], some []), 0) := by
  have hf : (exD []).files = [] := by unfold Dk.files Dk.keys exD; exact List.perm_nil.1 (srtd_perm [])
  unfold openF
  rw [if_neg (by omega), hf]
  rfl
theorem ex_app1 : Lg.append ⟨64, []⟩ (exD []) [97] = ((⟨64, [exQ]⟩, exD [⟨0, [], body exQ⟩]), 0) := by
  have hl : (headB 0 ++ frameF [97]).length = 25 := by rw [List.length_append, headB_len, frameF_len]; rfl
  have hb : body exQ = headB 0 ++ frameF [97] := by unfold body exQ; rw [cat_one]
  have ha : (exD []).append 0 (headB 0 ++ frameF [97]) = (exD [⟨0, [], body exQ⟩], 0) := by
    unfold Dk.append
    rw [hl, hb]
    generalize headB 0 ++ frameF [97] = x
    rfl
  have hn : Lg.next ⟨64, []⟩ = 0 := rfl
  unfold Lg.append
  rw [if_neg (by decide)]
  show Lg.begin2 ⟨64, []⟩ (exD []) [97] 0 = _
  unfold Lg.begin2
  rw [hn, ha, hl]
  rfl
theorem ex_sync : Lg.sync ⟨64, [exQ]⟩ (exD [⟨0, [], body exQ⟩]) = (exD [⟨0, body exQ, []⟩], 0) := by
  generalize body exQ = x
  rfl
theorem ex_app2 : Lg.append ⟨64, [exQ]⟩ (exD [⟨0, body exQ, []⟩]) [98] = ((⟨64, [exQ.more [98]]⟩, exD [⟨0, body exQ, frameF [98]⟩]), 0) := by
  have hb := exBody
  have hf : (frameF [98]).length = 9 := by rw [frameF_len]; rfl
  have ha : (exD [⟨0, body exQ, []⟩]).append 0 (frameF [98]) = (exD [⟨0, body exQ, frameF [98]⟩], 0) := by
    have hu : (exD [⟨0, body exQ, []⟩]).used = 25 := by unfold Dk.used exD; simp [Fil.len, hb]
    unfold Dk.append
    rw [hf, hu]
    generalize body exQ = y
    generalize frameF [98] = x
    rfl
  unfold Lg.append
  rw [if_neg (by decide)]
  show (if (64 : Int) ≤ exQ.size then _ else _) = _
  rw [if_neg (by decide)]
  show (if ((exD [⟨0, body exQ, []⟩]).append 0 (frameF [98])).2 = 0 then _ else _) = _
  rw [ha]
  rfl
theorem ex_crash : (exD [⟨0, body exQ, frameF [98]⟩]).crash [] = exD [⟨0, body exQ, []⟩] := by
  have hf : (exD [⟨0, body exQ, frameF [98]⟩]).files = [0] := srtd_one 0
  unfold Dk.crash
  rw [hf]
  have hs : stays [] 0 (frameF [98]).length = 0 := by unfold stays; simp; omega
  have h1 : crN [] (exD [⟨0, body exQ, frameF [98]⟩]) [0] 1 = (exD [⟨0, body exQ ++ (frameF [98]).take (stays [] 0 (frameF [98]).length), []⟩]) := by
    generalize body exQ = y
    generalize frameF [98] = x
    rfl
  show { crN [] (exD [⟨0, body exQ, frameF [98]⟩]) [0] 1 with armed := false, down := false } = _
  rw [h1, hs, List.take_zero, List.append_nil]
  rfl
theorem ex_open1 : openF (exD [⟨0, body exQ, []⟩]) 64 = ((exD [⟨0, body exQ, []⟩], some [exQ]), 0) := by
  have hf : (exD [⟨0, body exQ, []⟩]).files = [0] := srtd_one 0
  have ho : orderF [0] = [0] := rfl
  have hl := load_body (q := exQ) (D := exD [⟨0, body exQ, []⟩]) (A := []) (B := []) (fa := body exQ) (lo := []) rfl rfl (by simp) (by simp) (fun d hd => by simp [exQ] at hd; subst hd; decide) (by decide) (by decide) (by rw [exBody]; rfl) true
  have hl' : loadF (exD [⟨0, body exQ, []⟩]) 0 ([] : List Int).isEmpty = ((exD [⟨0, body exQ, []⟩], some exQ), 0) := hl
  unfold openF
  rw [if_neg (by omega), hf, ho]
  show (if false = true then _ else openG [0] (exD [⟨0, body exQ, []⟩]) []) = _
  rw [if_neg (by simp), openG, hl']
  rfl
end Go.Proofs.Ytkjhekflgghbdaa
set_option maxRecDepth 100000
namespace Go.Proofs.Ytkjhekflgghbdaa
open Go.Eng Go.Proofs.Ytkjhekflgghbdaa.Sint
abbrev PB := SV × List Int
def encQ (x : PB) : List Value := [x.1.v]
theorem encQ_len (x : PB) : (encQ x).length = 1 := rfl
theorem encQ_one (x : PB) : ∀ u ∈ encQ x, oneC u = true := fun u hu => by simp [encQ] at hu; subst hu; rfl
/-- A list of bytes that is read: the slices, and what lies in each. -/
def SlP (w : World) (v : Value) (l : List PB) : Prop := Sl w 1 encQ v l ∧ ∀ x ∈ l, SlB w x.1.v x.2
def dat (l : List PB) : List (List Int) := l.map (·.2)
section
variable {w0 w w' : World} {R : List Asn} {v : Value} {l : List PB} {ls : List (List Int)}
theorem SlP.fr (h : SlP w v l) (hf : Fr (fun _ => False) w w') : SlP w' v l := ⟨h.1.fr hf fun _ _ _ h => h, fun x hx => (h.2 x hx).fr hf fun _ _ _ h => h⟩
theorem dat_len (l : List PB) : (dat l).length = l.length := by simp [dat]
theorem SlP.len (h : SlP w v l) (w' : World) (K : KV) : biT P .len #[T.sl_sl_uint8] T.int [false] [v] w' K = K (.int .i64 l.length) w' := h.1.len_ok (by kernel_rfl) [false]
theorem SlP.at (h : SlP w v l) {i : Nat} (hi : i < l.length) : ∃ b o s, (∀ w' K, iaT P T.sl_sl_uint8 v (.int .i64 (i : Nat)) w' K = K (.pointer (some ⟨b, o, none⟩)) w') ∧ (∀ {w1}, SlP w1 v l → cellOf w1 b o = some (SV.v s)) ∧ ∀ {w1}, SlP w1 v l → SlB w1 (SV.v s) l[i].2 := by
  obtain ⟨b, o, cap, hv, _, _, hc⟩ := h.1.at hi
  refine ⟨b, o + i, l[i].1, fun w' K => by rw [hv]; simp [hi], fun {w1} h1 => ?_, fun {w1} h1 => h1.2 _ (List.getElem_mem hi)⟩
  obtain ⟨b', o', cap', hv', _, _, hc'⟩ := h1.1.at hi
  have hx := hv.symm.trans hv'
  cases hx
  have c0 := hc' 0 _ rfl
  simp only [Nat.mul_one, Nat.add_zero] at c0
  exact c0
theorem SlP.sub (h : SlP w v l) {lo hi : Option Value} {i j : Nat} (hlo : lo = none ∧ i = 0 ∨ ∃ k, lo = some (.int k (i : Int))) (hhi : hi = none ∧ j = l.length ∨ ∃ k, hi = some (.int k (j : Int))) (h0 : i ≤ j) (h1 : j ≤ l.length) : ∃ v', (∀ w1 K, slT P T.sl_sl_uint8 v lo hi none w1 K = K v' w1) ∧ ∀ {w1}, SlP w1 v l → SlP w1 v' ((l.drop i).take (j - i)) := by
  obtain ⟨v', _, _, hv⟩ := h.1.sub (P := P) (t := T.sl_sl_uint8) (by kernel_rfl) (by kernel_rfl) hlo hhi h0 h1
  refine ⟨v', hv, fun {w1} h' => ?_⟩
  obtain ⟨v2, s2, _, hv2⟩ := h'.1.sub (P := P) (t := T.sl_sl_uint8) (by kernel_rfl) (by kernel_rfl) hlo hhi h0 h1
  rw [slT_inj hv hv2 w]
  exact ⟨s2, fun x hx => h'.2 x (List.mem_of_mem_drop (List.mem_of_mem_take hx))⟩
theorem sl_encQ {vs : List SV} (h : Sl w 1 encSV v vs) (hl : vs.length = ls.length) : Sl w 1 encQ v (vs.zip ls) := by
  obtain ⟨a, cap, hv, h1, h2, h3⟩ := h
  have hzl : (vs.zip ls).length = vs.length := by simp; omega
  refine ⟨a, cap, by rw [hzl]; exact hv, by omega, h2, fun i x hx => ?_⟩
  have hx1 : vs[i]? = some x.1 := by
    rw [List.getElem?_zip_eq_some] at hx
    exact hx.1
  exact h3 i x.1 hx1
theorem list_rd (S : St w0 w (listA v ls :: R)) : ∃ l, dat l = ls ∧ SlP w v l := by
  obtain ⟨vs, hl, S1⟩ := unList S
  refine ⟨vs.zip ls, by unfold dat; exact List.map_snd_zip (by omega), sl_encQ (S1.rowO encSV_len) hl, fun x hx => ?_⟩
  obtain ⟨i, hi, rfl⟩ := List.getElem_of_mem hx
  simp only [List.length_zip] at hi
  have S2 := St.listAt (j := i) (L := rowsB vs ls) (by simp [rowsB]; omega) S1.swap
  unfold rowsB at S2
  rw [List.getElem_zipWith] at S2
  rw [List.getElem_zip]
  exact S2.row encB_len
theorem bytes_arg {n : Nat} (h : TV P w n T.sl_uint8 [v]) : ∃ l, SlB w v l := by
  refine sl_of_tv (sz := 1) (rd := rdE encB) (e := T.uint8) (by kernel_rfl) (by kernel_rfl) (by decide) (fun n b o cs ht hl hc => ?_) h
  obtain ⟨x, hx, _⟩ := tv_int (k := .u8) (by kernel_rfl) ht
  subst hx
  exact ⟨x, fun j u hj => hc j u hj⟩
theorem rows_arg {n : Nat} (h : TV P w n T.sl_sl_uint8 [v]) : ∃ l, SlP w v l := by
  have : ∃ l : List PB, SlOf w 1 (fun w b o x => rdE encQ w b o x ∧ SlB w x.1.v x.2) v l := by
    refine sl_of_tv (sz := 1) (rd := fun w b o (x : PB) => rdE encQ w b o x ∧ SlB w x.1.v x.2) (e := T.sl_uint8) (by kernel_rfl) (by kernel_rfl) (by decide) (fun n b o cs ht hl hc => ?_) h
    match cs, hl with
    | [u], _ =>
      obtain ⟨d, hd⟩ := bytes_arg ht
      obtain ⟨a, c, hu, _⟩ := id hd
      exact ⟨(⟨a, d.length, c⟩, d), fun j y hj => hc j y (by rw [hu]; exact hj), by simpa [SV.v, ← hu] using hd⟩
  obtain ⟨l, hl⟩ := this
  refine ⟨l, hl.mono fun b o x hx => hx.1, fun x hx => ?_⟩
  obtain ⟨i, hi, rfl⟩ := List.getElem_of_mem hx
  obtain ⟨a, cap, hv, _, _, h3⟩ := hl
  obtain ⟨b, o, _, _, hr⟩ := h3 i _ (List.getElem?_eq_getElem hi)
  exact hr.2
def EbI (w0 : World) (n : Nat) : KL := fun x w1 => ∃ (u : Value) (i : Nat), x = [u, .int .i64 (i : Nat)] ∧ Fr (fun _ => False) w0 w1 ∧ i ≤ n
theorem same01b {v1 v2 : Value} {l : List Int} (s1 : SlB w v1 l) (s2 : SlB w v2 l) (hl : l.length ≤ 1000000000) {K : KV} (h : ∀ w', Fr (fun _ => False) w w' → K (.bool true) w') : fcallT P F.winnowref01_Same [v1, v2] w K := by
  rw [M.winnowref01_Same.fcall]
  apply M.winnowref01_Same.calls
  unfold M.winnowref01_Same
  simp only [joinT_eq]
  rw [s1.len_ok (by kernel_rfl), s2.len_ok (by kernel_rfl)]
  simp
  unfold M.winnowref01_Same.j0
  simp only [joinT_eq]
  refine ⟨EbI w l.length, fun x _ => l.length - ms x 1, ⟨_, 0, rfl, Fr.refl _ _, Nat.zero_le _⟩, ?_⟩
  rintro x w1 ⟨u, i, rfl, f1, hi⟩
  have q1 : gv [u, .int .i64 (i : Int)] 1 = .int .i64 (i : Int) := rfl
  have t1 : SlB w1 v1 l := s1.fr f1 fun _ _ _ h => h
  have t2 : SlB w1 v2 l := s2.fr f1 fun _ _ _ h => h
  simp only [q1]
  rw [t1.len_ok (by kernel_rfl)]
  by_cases hil : i < l.length
  · have hil' : (i : Int) < l.length := by omega
    simp [hil']
    unfold M.winnowref01_Same.j3
    obtain ⟨b1, o1, cap1, rfl, _, _, e1⟩ := t1.at hil
    obtain ⟨b2, o2, cap2, rfl, _, _, e2⟩ := t2.at hil
    have d1 := e1 0 _ rfl
    have d2 := e2 0 _ rfl
    simp only [Nat.mul_one, Nat.add_zero] at d1 d2
    have hwi : IntKind.i64.wrap ((i : Int) + 1) = ((i + 1 : Nat) : Int) := by rw [wrap_id (by omega) (by omega)]; rfl
    simp [q1, hil, d1, d2]
    rw [hwi]
    exact ⟨⟨_, i + 1, rfl, f1.dr 1, by omega⟩, by simp [ms, gv]; omega⟩
  · have hil' : ¬ (i : Int) < l.length := by omega
    simp [hil']
    exact h w1 f1
theorem same02 {v1 v2 : Value} {l1 l2 : List PB} (s1 : SlP w v1 l1) (s2 : SlP w v2 l2) (he : dat l1 = dat l2) (hl : l1.length ≤ 1000000) (hd : ∀ x ∈ l1, x.2.length ≤ 1000000000) {K : KV} (h : ∀ w', Fr (fun _ => False) w w' → K (.bool true) w') : fcallT P F.winnowref02_Same [v1, v2] w K := by
  rw [M.winnowref02_Same.fcall]
  apply M.winnowref02_Same.calls
  unfold M.winnowref02_Same
  have hll : l1.length = l2.length := by rw [← dat_len, he, dat_len]
  simp [s1.len, s2.len, hll]
  unfold M.winnowref02_Same.j0
  simp
  refine ⟨EbI w l1.length, fun x _ => l1.length - ms x 1, ⟨_, 0, rfl, Fr.refl _ _, Nat.zero_le _⟩, ?_⟩
  rintro x w1 ⟨u, i, rfl, f1, hi⟩
  have t1 := s1.fr f1
  have t2 := s2.fr f1
  by_cases hil : i < l1.length
  · have hil' : (i : Int) < (l1.length : Int) := by omega
    have hil2 : i < l2.length := by omega
    simp [s1.len, hil]
    unfold M.winnowref02_Same.j3
    obtain ⟨b1, o1, x1, e1, c1, r1⟩ := t1.at hil
    obtain ⟨b2, o2, x2, e2, c2, r2⟩ := t2.at hil2
    have k1 := c1 t1
    have k2 := c2 t2
    simp only [SV.v] at k1 k2
    have hwi : IntKind.i64.wrap ((i : Int) + 1) = ((i + 1 : Nat) : Int) := by rw [wrap_id (by omega) (by omega)]; rfl
    simp [e1, e2, k1, k2]
    have heq : l1[i].2 = l2[i].2 := by
      have a1 : (dat l1)[i]? = some l1[i].2 := by simp [dat, hil]
      have a2 : (dat l2)[i]? = some l2[i].2 := by simp [dat, hil2]
      rw [he, a2] at a1
      exact (Option.some.inj a1).symm
    have r1' := r1 (t1.fr ((Fr.refl _ w1).dr 1))
    have r2' := r2 (t2.fr ((Fr.refl _ w1).dr 1))
    rw [← heq] at r2'
    refine same01b r1' r2' (hd _ (List.getElem_mem hil)) fun w2 f2 => ?_
    simp
    rw [hwi]
    exact ⟨⟨_, i + 1, rfl, (f1.dr 1).trans f2, by omega⟩, by simp [ms, gv]; omega⟩
  · have hil' : ¬ (i : Int) < (l1.length : Int) := by omega
    simp [s1.len, hil]
    exact h w1 f1
end
end Go.Proofs.Ytkjhekflgghbdaa
set_option maxRecDepth 100000
namespace Go.Proofs.Ytkjhekflgghbdaa
open Go.Eng Go.Proofs.Ytkjhekflgghbdaa.Sint
theorem lgB0 (m : Int) : LgB ⟨m, []⟩ := ⟨by simp, fun q h => by simp at h, fun q h => by simp at h, fun q h => by simp at h⟩
theorem lgB1 : LgB ⟨64, [exQ]⟩ := ⟨by simp, fun q h => by simp at h; subst h; decide, fun q h => by simp at h; subst h; decide, fun q h => by simp at h; subst h; decide⟩
theorem alive7 {w : World} {K : KV} (h : ∀ w', Fr (fun _ => False) w w' → K (.bool true) w') : fcallT P F.winnowlaw07_alive [] w K := by
  rw [M.winnowlaw07_alive.fcall]
  apply M.winnowlaw07_alive.calls
  unfold M.winnowlaw07_alive
  refine dnew_ok (St.start w) 1000 (fun h => by omega) fun _ _ w1 hb S1 => ?_
  simp
  have S1' : St w w1 (diskA hb (exD []) :: []) := S1
  refine opn_st S1' (by decide) (fun w2 hn _ => by rw [ex_open0] at hn; cases hn) fun w2 p qs hs S2 => ?_
  rw [ex_open0] at hs S2
  have hqs : qs = [] := by simpa using (congrArg (·.1.2) hs).symm
  subst hqs
  simp only [ptr0]
  simp
  unfold M.winnowlaw07_alive.j0
  simp
  refine lit_bytes (by kernel_rfl) encB_len S2 (l := [97]) rfl (by decide) fun w3 v3 S3 => ?_
  refine lappend_st S3.dn2 (lgB0 64) (by decide) (fun w' L S => (S.perm List.perm_middle).rd) fun w4 S4 => ?_
  rw [ex_app1] at S4 ⊢
  simp only at S4 ⊢
  refine lsync_st S4 (by decide) fun w5 S5 => ?_
  rw [ex_sync] at S5 ⊢
  simp
  refine lit_bytes (by kernel_rfl) encB_len S5 (l := [98]) rfl (by decide) fun w6 v6 S6 => ?_
  refine lappend_st S6.dn2 lgB1 (by decide) (fun w' L S => (S.perm List.perm_middle).rd) fun w7 S7 => ?_
  rw [ex_app2] at S7 ⊢
  simp only at S7 ⊢
  refine crash_st S7.swap (kl := []) (fun w' L S => Sl.nil) fun w8 S8 => ?_
  rw [ex_crash] at S8
  refine opn_st S8 (by decide) (fun w9 hn _ => by rw [ex_open1] at hn; cases hn) fun w9 p2 qs hs S9 => ?_
  rw [ex_open1] at hs S9
  have hqs : qs = [exQ] := by simpa using (congrArg (·.1.2) hs).symm
  subst hqs
  simp only [ptr0]
  simp
  refine recs_st S9 (by decide) (by decide) (fun q hq d hd => by simp at hq; subst hq; simp [exQ] at hd; subst hd; decide) fun w10 v10 S10 => ?_
  have hall : Lg.all ⟨64, [exQ]⟩ = [[97]] := rfl
  rw [hall] at S10
  have hlen := fun w' K => list_len S10 w' K
  simp [hlen]
  refine recs_st S10.drop (by decide) (by decide) (fun q hq d hd => by simp at hq; subst hq; simp [exQ] at hd; subst hd; decide) fun w11 v11 S11 => ?_
  rw [hall] at S11
  obtain ⟨b, o, s, hia, _, cc, hsb⟩ := list_at S11 (i := 0) (by simp)
  have hia0 : ∀ w' K, iaT P T.sl_sl_uint8 v11 (.int .i64 0) w' K = K (.pointer (some ⟨b, o, none⟩)) w' := hia
  simp only [SV.v] at cc
  simp only [List.getElem_cons_zero, SV.v] at hsb
  simp [hia0, cc]
  rw [cv_bs (l := [97]) (by kernel_rfl) (by kernel_rfl) hsb]
  have e : ((strB [97]).toList == [97]) = true := by kernel_rfl
  simp [bin_eqlS]
  rw [e]
  exact h w11 S11.fr
end Go.Proofs.Ytkjhekflgghbdaa
set_option maxRecDepth 100000
namespace Go.Proofs.Ytkjhekflgghbdaa
open Go.Eng Go.Proofs.Ytkjhekflgghbdaa.Sint
section
variable {s f : Int} {Q Q0 : List Prt} {q : Prt} {F : Nat} {D : Dk} {w : Prop} {fa lo : List Int} {L : Lg} {b l : List Int}
theorem cat_ge : ∀ ds : List (List Int), 8 * ds.length ≤ (cat ds).length
  | [] => by simp
  | d :: ds => by
    have := cat_ge ds
    have e : cat (d :: ds) = frameF d ++ cat ds := by simp [cat]
    rw [e, List.length_append, frameF_len]; simp; omega
theorem whole_ge : ∀ Q0 : List Prt, 8 * (allP Q0).length ≤ ((Q0.map whole).map Fil.len).sum
  | [] => by simp [allP]
  | q :: Q0 => by
    have h1 := whole_ge Q0
    have h2 := cat_ge q.recs
    have e : allP (q :: Q0) = q.recs ++ allP Q0 := by unfold allP; simp
    have e2 : (whole q).len = (headB q.first).length + (cat q.recs).length := by unfold whole Fil.len body; simp
    rw [e, List.map_cons, List.map_cons, List.sum_cons, List.length_append, e2]
    omega
theorem whole_size : ∀ Q0 : List Prt, ∀ q ∈ Q0, (body q).length ≤ ((Q0.map whole).map Fil.len).sum := fun Q0 q hq => by
  have : (whole q).len ≤ ((Q0.map whole).map Fil.len).sum := sum_le_mem (List.mem_map_of_mem (List.mem_map_of_mem hq))
  have e2 : (whole q).len = (body q).length := by unfold whole Fil.len; simp
  omega
theorem good_used (h : Good s f L F D) : (∀ q ∈ L.parts, (body q).length ≤ D.used) ∧ 8 * (allP L.parts).length ≤ D.used := by
  rcases h.vir.dsc with ⟨hq, _⟩ | ⟨Q0, q, fa, lo, m, hq, hf, _, hw, _⟩
  · rw [hq]; exact ⟨fun q h => by simp at h, by simp [allP]⟩
  · have hb : fa.length + lo.length = (body q).length := by rw [← hw trivial, List.length_append]
    have hc : (body q).length = (headB q.first).length + (cat q.recs).length := by unfold body; rw [List.length_append]
    have hcg := cat_ge q.recs
    have hu : D.used = ((Q0.map whole).map Fil.len).sum + (body q).length := by
      unfold Dk.used
      rw [hf, List.map_append, List.sum_append]
      simp [Fil.len]; omega
    refine ⟨fun x hx => ?_, ?_⟩
    · rw [hq] at hx
      rcases List.mem_append.1 hx with hx | hx
      · have := whole_size Q0 x hx; omega
      · rw [List.mem_singleton.1 hx]; omega
    · have := whole_ge Q0
      rw [hq, allP_append, allP_one, List.length_append]
      omega
theorem chn_recs : ∀ {Q : List Prt} {s f : Int}, Chn s f Q → ∀ q ∈ Q, ∀ d ∈ q.recs, d.length ≤ 8192
  | q :: r, s, f, h, x, hx, d, hd => by
    rcases List.mem_cons.1 hx with rfl | hx
    · exact h.2.2.1 d hd
    · exact chn_recs h.2.2.2 x hx d hd
theorem allP_rec {Q : List Prt} {s f : Int} (h : Chn s f Q) : ∀ d ∈ allP Q, d.length ≤ 8192 := fun d hd => by
  unfold allP at hd
  rw [List.mem_flatMap] at hd
  obtain ⟨q, hq, hd⟩ := hd
  exact chn_recs h q hq d hd
theorem rec_le : ∀ {Q : List Prt}, ∀ q ∈ Q, q.recs.length ≤ (allP Q).length := fun {Q} q hq => by
  obtain ⟨a, c, rfl⟩ := List.append_of_mem hq
  unfold allP; simp; omega
end
section
variable {w0 w : World} {R : List Asn} {p hb : Nat} {L : Lg} {D : Dk} {s f : Int} {G : Nat}
theorem disk_room (S : St w0 w (diskA hb D :: R)) : D.room ≤ 1048576 ∧ (D.used : Int) ≤ D.room := by
  obtain ⟨r, m, es, hk, _⟩ := unDk S
  exact ⟨hk.room, hk.used⟩
theorem good_all (S : St w0 w (diskA hb D :: R)) (h : Good s f L G D) : (allP L.parts).length ≤ 131072 := by
  have h1 := disk_room S
  have h2 := (good_used h).2
  omega
theorem lgB_of (S : St w0 w (diskA hb D :: R)) (h : Good s f L G D) : LgB L := by
  have h1 := disk_room S
  have h2 := good_used h
  refine ⟨by have := h.vir.len; omega, chn_rng h.vir.s0 h.vir.chn, fun q hq => ?_, fun q hq => ?_⟩
  · have := rec_le q hq; omega
  · have := h.size q hq
    have := h2.1 q hq
    omega
/-- The records of a good log. -/
theorem grecs_st (S : St w0 w (logA p hb L :: diskA hb D :: R)) (h : Good s f L G D) {K : KV} (hK : ∀ w' v', St w0 w' (listA v' (allP L.parts) :: logA p hb L :: diskA hb D :: R) → K v' w') : fcallT P F.pwal_Log_Records [ptr0 p] w K := by
  have h1 := good_all S.swap h
  exact recs_st S (by have := h.vir.len; omega) (by unfold Lg.all; unfold allP at h1; omega) (fun q hq d hd => by have := chn_recs h.vir.chn q hq d hd; omega) hK
end
end Go.Proofs.Ytkjhekflgghbdaa
set_option maxRecDepth 100000
namespace Go.Proofs.Ytkjhekflgghbdaa
open Go.Eng Go.Proofs.Ytkjhekflgghbdaa.Sint
section
variable {w0 w : World} {R : List Asn} {p hb : Nat} {v : Value} {L : Lg} {D : Dk} {s f : Int} {G : Nat} {l : List PB} {ls : List (List Int)} {vs : List SV}
/-- A list that is the state's own, opened: what it reads as. -/
theorem open_rd (hl : vs.length = ls.length) (S : St w0 w (Eng.rowO T.sl_uint8 1 encSV v vs :: allA (rowsB vs ls) :: R)) : SlP w v (vs.zip ls) := by
  refine ⟨sl_encQ (S.rowO encSV_len) hl, fun x hx => ?_⟩
  obtain ⟨i, hi, rfl⟩ := List.getElem_of_mem hx
  simp only [List.length_zip] at hi
  have S2 := St.listAt (j := i) (L := rowsB vs ls) (by simp [rowsB]; omega) S.swap
  unfold rowsB at S2
  rw [List.getElem_zipWith] at S2
  rw [List.getElem_zip]
  exact S2.row encB_len
theorem dat_zip (hl : vs.length = ls.length) : dat (vs.zip ls) = ls := by unfold dat; exact List.map_snd_zip (by omega)
theorem dat_take (l : List PB) (i : Nat) : dat (l.take i) = (dat l).take i := by simp [dat, List.map_take]
theorem dat_drop (l : List PB) (i : Nat) : dat (l.drop i) = (dat l).drop i := by simp [dat, List.map_drop]
theorem dat_at (l : List PB) {i : Nat} (h : i < l.length) : (dat l)[i]'(by rw [dat_len]; exact h) = l[i].2 := by simp [dat]
theorem allP_len_take {j : Nat} {X Y : List (List Int)} (h : X = Y.take j) : X = Y.take X.length := by
  rw [h, List.length_take]
  by_cases hj : j ≤ Y.length
  · rw [Nat.min_eq_left hj]
  · rw [Nat.min_eq_right (by omega), List.take_of_length_le (by omega), List.take_of_length_le (Nat.le_refl _)]
/-- 60 records or fewer, put into a log on an empty disk. -/
structure Put (L : Lg) (D : Dk) (most : Int) (n : Nat) (ds : List (List Int)) : Prop where
  good : Good 0 0 L 0 D
  all : allP L.parts = ds
  used : D.used ≤ 524 * n
  armed : D.armed = false
  room : D.room = 1048576
  most : L.most = most
  parts : L.parts.length ≤ n
theorem put_start (m : Int) : Put ⟨m, []⟩ ⟨1048576, 0, false, false, []⟩ m 0 [] :=
  ⟨⟨⟨trivial, by omega, by omega, by simp, by simp [allP], .inl ⟨rfl, rfl, rfl⟩, fun _ => ⟨rfl, rfl⟩, fun q h => by simp at h⟩, fun q h => by simp at h, rfl⟩, rfl, by simp [Dk.used], rfl, rfl, rfl, by simp⟩
theorem put_more {most : Int} {n : Nat} {ds : List (List Int)} (h : Put L D most n ds) {b : List Int} (hb : b.length ≤ 500) (hn : n ≤ 62) (hds : ds.length ≤ 1000) : (L.append D b).2 = 0 ∧ Put (L.append D b).1.1 (L.append D b).1.2 most (n + 1) (ds ++ [b]) ∧ (L.append D b).1.1.parts ≠ [] ∧ (L.parts.length ≤ 1 → 524 * n < most → (L.append D b).1.1.parts.length = 1) := by
  have ha := lapp (b := b) h.good (by have := h.all; rw [this]; omega)
  have hu := h.used
  have hr := h.room
  have hp := h.parts
  have hz := h.good.size
  have hgu := (good_used h.good).1
  have hmost := h.most
  generalize L.append D b = r at *
  cases ha with
  | large hx => omega
  | full D' hx _ _ _ => rcases hx with hx | hx <;> omega
  | down D' Q hx _ _ _ _ => rw [h.armed] at hx; cases hx
  | ok L' D' g1 g2 g3 g4 g5 g6 g7 g8 g9 =>
    refine ⟨rfl, ⟨?_, by rw [g2, h.all], by show D'.used ≤ _; omega, g7 h.armed, by rw [g6, hr], by rw [g5, hmost], by show L'.parts.length ≤ _; omega⟩, g4, fun hl hm => ?_⟩
    · exact ⟨vir_mono g1.vir (Nat.zero_le _), g1.size, g1.up⟩
    · simp only
      have hne : 0 < L'.parts.length := List.length_pos_iff.2 g4
      match hq : L.parts with
      | [] => rw [hq] at g3; simp at g3; omega
      | [q] =>
        have h1 := hz q (by rw [hq]; simp)
        have h2 := hgu q (by rw [hq]; simp)
        exact g9 q hq (by omega)
      | _ :: _ :: _ => rw [hq] at hl; simp at hl
end
end Go.Proofs.Ytkjhekflgghbdaa
set_option maxRecDepth 100000
namespace Go.Proofs.Ytkjhekflgghbdaa
open Go.Eng Go.Proofs.Ytkjhekflgghbdaa.Sint
structure PutW (L : Lg) (D : Dk) (ds : List (List Int)) : Prop where
  good : Good 0 0 L 0 D
  all : allP L.parts = ds
  armed : D.armed = false
theorem putW_start (m : Int) : PutW ⟨m, []⟩ ⟨1048576, 0, false, false, []⟩ [] := ⟨(put_start m).good, rfl, rfl⟩
theorem putW_more {L : Lg} {D : Dk} {ds : List (List Int)} (h : PutW L D ds) {b : List Int} (hb : b.length ≤ 500) (hds : ds.length ≤ 1000000) : ((L.append D b).2 = 9 ∧ PutW (L.append D b).1.1 (L.append D b).1.2 ds) ∨ ((L.append D b).2 = 0 ∧ PutW (L.append D b).1.1 (L.append D b).1.2 (ds ++ [b])) := by
  have ha := lapp (b := b) h.good (by rw [h.all]; omega)
  generalize L.append D b = r at *
  cases ha with
  | large hx => omega
  | full D' _ g _ ga => exact .inl ⟨rfl, ⟨vir_mono g.vir (Nat.zero_le _), g.size, g.up⟩, h.all, ga.trans h.armed⟩
  | down D' Q hx _ _ _ _ => rw [h.armed] at hx; cases hx
  | ok L' D' g1 g2 g3 g4 g5 g6 g7 g8 g9 => exact .inr ⟨rfl, ⟨vir_mono g1.vir (Nat.zero_le _), g1.size, g1.up⟩, by rw [g2, h.all], g7 h.armed⟩
def FlI (W : World) (l : List PB) (p hb p2 hb2 : Nat) : KL := fun x w1 => ∃ (u0 u1 u2 : Value) (i : Nat) (L : Lg) (D : Dk) (L2 : Lg) (D2 : Dk), x = [u0, u1, u2, .int .i64 (i : Nat)] ∧ i ≤ l.length ∧ St W w1 (logA p2 hb2 L2 :: diskA hb2 D2 :: logA p hb L :: diskA hb D :: []) ∧ PutW L D ((dat l).take i) ∧ PutW L2 D2 ((dat l).take i)
theorem open_new {W w : World} {R : List Asn} {hb : Nat} {m : Int} (S : St W w (diskA hb ⟨1048576, 0, false, false, []⟩ :: R)) (hm : 64 ≤ m ∧ m ≤ 1048576) {K : KV} (h : ∀ w' p, St W w' (logA p hb ⟨m, []⟩ :: diskA hb ⟨1048576, 0, false, false, []⟩ :: R) → K (.tuple #[ptr0 p, .int .i64 0]) w') : fcallT P F.wal_Open [.pointer (some ⟨hb, 0, none⟩), .int .i64 m] w K := by
  obtain ⟨s', f', Q', D', eo, _, _, _, _, _, _, hw, _⟩ := vopen (put_start m).good.vir rfl (most := m) hm
  obtain ⟨rfl, rfl, _, _⟩ := hw trivial
  refine opn_st S (by omega) (fun w2 hn _ => by rw [eo] at hn; cases hn) fun w2 p qs hs S2 => ?_
  rw [eo] at hs S2
  have hqs : qs = [] := by simpa using (congrArg (·.1.2) hs).symm
  subst hqs
  exact h w2 p S2
theorem WalFiles_law {W : World} {n2 : Nat} {v2 : Value} {a0 a1 : Int} (h0 : (Lit.int .i64 a0).wf = true) (h1 : (Lit.int .i64 a1).wf = true) (h2 : TV P W n2 T.sl_sl_uint8 [v2]) {K : KV} (h : ∀ w', Fr (fun _ => False) W w' → K (.bool true) w') : callT P F.winnowlaw07_WalFiles [.int .i64 a0, .int .i64 a1, v2] W K := by
  apply M.winnowlaw07_WalFiles.calls
  unfold M.winnowlaw07_WalFiles
  obtain ⟨l, hl⟩ := rows_arg h2
  have hlen := fun w' K => hl.len w' K
  by_cases c1 : 100 < l.length
  · have c1' : (100 : Int) < (l.length : Int) := by omega
    simp [hlen, c1']
    exact alive7 h
  have c1' : ¬ (100 : Int) < (l.length : Int) := by omega
  by_cases c2 : a0 < 64
  · simp [hlen, c1', c2]
    exact alive7 h
  by_cases c3 : a1 < 64
  · simp [hlen, c1', c2, c3]
    exact alive7 h
  by_cases c4 : 1048576 < a0
  · simp [hlen, c1', c2, c3, c4]
    exact alive7 h
  by_cases c5 : 1048576 < a1
  · simp [hlen, c1', c2, c3, c4, c5]
    exact alive7 h
  simp [hlen, c1', c2, c3, c4, c5]
  unfold M.winnowlaw07_WalFiles.j0
  refine dnew_ok (St.start W) 1048576 (fun h => by omega) fun _ _ w1 hb S1 => ?_
  simp
  refine dnew_ok S1 1048576 (fun h => by omega) fun _ _ w2 hb2 S2 => ?_
  simp
  refine open_new S2.swap (by omega) fun w3 p S3 => ?_
  simp
  refine open_new S3.up2 (by omega) fun w4 p2 S4 => ?_
  simp only [ptr0]
  simp
  refine ⟨FlI W l p hb p2 hb2, fun x _ => l.length - ms x 3, ⟨_, _, _, 0, _, _, _, _, rfl, Nat.zero_le _, S4, putW_start a0, putW_start a1⟩, ?_⟩
  rintro x w5 ⟨u0, u1, u2, i, L, D, L2, D2, rfl, hi, S5, hp, hp2⟩
  have hlw := hl.fr S5.fr
  unfold M.winnowlaw07_WalFiles.j3
  have hw : IntKind.i64.wrap ((i : Int) + 1) = ((i + 1 : Nat) : Int) := by rw [wrap_id (by omega) (by omega)]; omega
  by_cases hil : i < l.length
  · have hili : (i : Int) < (l.length : Int) := by omega
    simp [hlen, hil]
    unfold M.winnowlaw07_WalFiles.j4
    obtain ⟨b, o, sv, hia, hc, hr⟩ := hlw.at hil
    have cc := hc hlw
    have hsb := hr hlw
    have hbl : ∀ w' K, biT P .len #[T.sl_uint8] T.int [false] [sv.v] w' K = K (.int .i64 l[i].2.length) w' := fun w' K => hsb.len_ok (by kernel_rfl) [false]
    simp only [SV.v] at cc hbl
    simp [hia, cc, hbl]
    by_cases c6 : 500 < l[i].2.length
    · have c6' : (500 : Int) < (l[i].2.length : Int) := by omega
      simp [c6']
      exact alive7 fun w' f' => h w' (S5.fr.trans f')
    · have c6' : ¬ (500 : Int) < (l[i].2.length : Int) := by omega
      simp [c6']
      unfold M.winnowlaw07_WalFiles.j6
      simp [hia, cc]
      have hrw : ∀ {w' : World} {L' : List Asn}, St W w' L' → SlB w' (SV.v sv) l[i].2 := fun S' => hr (hl.fr S'.fr)
      have hcw : ∀ {w' : World} {L' : List Asn}, St W w' L' → cellOf w' b o = some (.slice sv.a sv.n sv.c) := fun S' => hc (hl.fr S'.fr)
      have S6 := S5.step ((Fr.refl _ w5).dr 1)
      have S7 : St W (dr w5 1) (logA p hb L :: diskA hb D :: logA p2 hb2 L2 :: diskA hb2 D2 :: []) := S6.up3.up3
      have htl : (dat l).take i ++ [l[i].2] = (dat l).take (i + 1) := by rw [List.take_succ_eq_append_getElem (by rw [dat_len]; exact hil), dat_at l hil]
      have htn : ((dat l).take i).length ≤ 1000000 := by simp [dat_len]; omega
      refine lappend_st S7 (lgB_of S7.swap hp.good) (by omega) (fun w' L' S' => hrw S') fun w6 S8 => ?_
      have k1 := hcw S8
      have cs1 := putW_more hp (b := l[i].2) (by omega) htn
      generalize L.append D l[i].2 = r at *
      obtain ⟨⟨L', D'⟩, k⟩ := r
      simp only at S8 cs1 ⊢
      simp [hia, k1]
      have S9 : St W w6 (logA p2 hb2 L2 :: diskA hb2 D2 :: logA p hb L' :: diskA hb D' :: []) := S8.up3.up3
      refine lappend_st S9 (lgB_of S9.swap hp2.good) (by omega) (fun w' L' S' => hrw S') fun w7 S10 => ?_
      have cs2 := putW_more hp2 (b := l[i].2) (by omega) htn
      generalize L2.append D2 l[i].2 = r at *
      obtain ⟨⟨L2', D2'⟩, k2⟩ := r
      simp only at S10 cs2 ⊢
      have g1 : L'.parts.length ≤ 63 := by rcases cs1 with ⟨_, g⟩ | ⟨_, g⟩ <;> exact g.good.vir.len
      have g2 : L2'.parts.length ≤ 63 := by rcases cs2 with ⟨_, g⟩ | ⟨_, g⟩ <;> exact g.good.vir.len
      have n1 : ¬ (64 : Int) ≤ (L'.parts.length : Int) := by omega
      have n2 : ¬ (64 : Int) ≤ (L2'.parts.length : Int) := by omega
      refine files_lst S10.up2 ?_
      simp [n1]
      refine files_lst S10 ?_
      simp [n2]
      unfold M.winnowlaw07_WalFiles.j7
      rcases cs1 with ⟨e1, g3⟩ | ⟨e1, g3⟩
      · subst e1
        simp
        exact alive7 fun w' f' => h w' (S10.fr.trans f')
      · subst e1
        rcases cs2 with ⟨e2, g4⟩ | ⟨e2, g4⟩
        · subst e2
          simp
          exact alive7 fun w' f' => h w' (S10.fr.trans f')
        · subst e2
          rw [htl] at g3 g4
          simp
          rw [hw]
          exact ⟨⟨_, _, _, i + 1, _, _, _, _, rfl, hil, S10, g3, g4⟩, by simp [ms, gv]; omega⟩
  · have hili : ¬ (i : Int) < (l.length : Int) := by omega
    simp [hlen, hil]
    unfold M.winnowlaw07_WalFiles.j2
    have htl : (dat l).take i = dat l := List.take_of_length_le (by rw [dat_len]; omega)
    rw [htl] at hp hp2
    refine grecs_st S5.up3.up3 hp.good fun w6 v6 S6 => ?_
    rw [hp.all] at S6
    obtain ⟨l6, e6, r6⟩ := list_rd S6
    have hd8 : ∀ x ∈ l6, x.2.length ≤ 1000000000 := fun x hx => by
      have : x.2 ∈ dat l6 := List.mem_map_of_mem hx
      rw [e6, ← hp.all] at this
      have := allP_rec hp.good.vir.chn _ this
      omega
    have hl6 : l6.length = l.length := by rw [← dat_len, e6, dat_len]
    refine same02 r6 (hl.fr S6.fr) e6 (by omega) hd8 fun w7 f7 => ?_
    simp
    have S7 := S6.step f7
    refine grecs_st S7.up4.up4 hp2.good fun w8 v8 S8 => ?_
    rw [hp2.all] at S8
    obtain ⟨l8, e8, r8⟩ := list_rd S8
    have hd9 : ∀ x ∈ l8, x.2.length ≤ 1000000000 := fun x hx => by
      have : x.2 ∈ dat l8 := List.mem_map_of_mem hx
      rw [e8, ← hp2.all] at this
      have := allP_rec hp2.good.vir.chn _ this
      omega
    have hl8 : l8.length = l.length := by rw [← dat_len, e8, dat_len]
    refine same02 r8 (hl.fr S8.fr) e8 (by omega) hd9 fun w9 f9 => ?_
    simp
    exact alive7 fun w' f' => h w' ((S8.fr.trans f9).trans f')
end Go.Proofs.Ytkjhekflgghbdaa
set_option maxRecDepth 100000
namespace Go.Proofs.Ytkjhekflgghbdaa
open Go.Eng Go.Proofs.Ytkjhekflgghbdaa.Sint
theorem good_tail {m s f : Int} {q q2 : Prt} {r : List Prt} {D : Dk} (h : Good s f ⟨m, q :: q2 :: r⟩ 0 D) : D.remove q.no = (D.rem q.no, 0) ∧ Good ((s + 1) % 64) (f + q.recs.length) ⟨m, q2 :: r⟩ 0 (D.rem q.no) ∧ q2.first = f + q.recs.length := by
  have hv := h.vir
  have hs := hv.s0
  have hnd := chn_nodup hs hv.chn (by have := hv.len; omega)
  simp only at hv hnd
  have hfew := hv.few
  have e0 : (allP (q :: q2 :: r)).length = q.recs.length + (allP (q2 :: r)).length := by unfold allP; simp
  rcases hv.dsc with ⟨hx, _⟩ | ⟨Q0, ql, fa, lo, mm, hx, hf, hp, hw, hmm, hF, hy⟩
  · simp at hx
  · cases Q0 with
    | nil => simp at hx
    | cons q' Q0 =>
      rw [List.cons_append] at hx
      obtain ⟨rfl, hx2⟩ := List.cons.inj hx
      rw [List.map_cons, List.cons_append] at hf
      have hB : ∀ x ∈ Q0.map whole ++ [(⟨ql.no, fa, lo⟩ : Fil)], x.n ≠ (whole q).n := fun x hx he => by
        rw [hx2, List.map_cons, List.nodup_cons] at hnd
        refine hnd.1 ?_
        have he2 : x.n = q.no := he
        rw [← he2]
        rcases List.mem_append.1 hx with hx | hx
        · obtain ⟨p, hp, rfl⟩ := List.mem_map.1 hx
          exact List.mem_map_of_mem (List.mem_append_left _ hp)
        · rw [List.mem_singleton.1 hx]; simp
      have hg : D.get q.no = some (whole q) := get_mid (A := []) hf (by simp)
      have hr := rem_mid (A := []) hf (by simp) hB
      rw [List.nil_append] at hr
      have hch := hv.chn
      refine ⟨by unfold Dk.remove; rw [h.up, hg]; rfl, ⟨⟨hch.2.2.2, by omega, by have := hv.f0; omega, by have := hv.len; simp at this ⊢; omega, by rw [e0] at hfew; show f + (q.recs.length : Int) + ((allP (q2 :: r)).length : Int) ≤ _; omega, ?_, fun hx => by simp at hx, fun x hx => h.size x (List.mem_cons_of_mem _ hx)⟩, fun x hx => h.size x (List.mem_cons_of_mem _ hx), h.up⟩, hch.2.2.2.2.1⟩
      exact .inr ⟨Q0, ql, fa, lo, 0, hx2, hr, hp, hw, Nat.zero_le _, Nat.zero_le _, .inl rfl⟩
theorem gdrop {m n : Int} : ∀ (qs : List Prt) {s f : Int} {D : Dk}, Good s f ⟨m, qs⟩ 0 D → ∃ A s' f', qs = A ++ (dropG n qs D).1.1 ∧ (dropG n qs D).2 = 0 ∧ Good s' f' ⟨m, (dropG n qs D).1.1⟩ 0 (dropG n qs D).1.2 ∧ f' = f + (allP A).length ∧ (f' ≤ n ∨ A = []) ∧ (qs ≠ [] → (dropG n qs D).1.1 ≠ [])
  | [], s, f, D, h => ⟨[], s, f, rfl, rfl, h, by simp [allP], .inr rfl, fun h => absurd rfl h⟩
  | [q], s, f, D, h => ⟨[], s, f, rfl, rfl, h, by simp [allP], .inr rfl, fun _ => by simp [dropG]⟩
  | q :: q2 :: r, s, f, D, h => by
    obtain ⟨e1, g1, e2⟩ := good_tail h
    rw [dropG]
    by_cases hle : q2.first ≤ n
    · rw [if_pos hle, e1, if_pos rfl]
      obtain ⟨A, s', f', h1, h2, h3, h4, h5, h6⟩ := gdrop (n := n) (q2 :: r) g1
      refine ⟨q :: A, s', f', by rw [List.cons_append, ← h1], h2, h3, ?_, .inl ?_, fun _ => h6 (by simp)⟩
      · have e0 : (allP (q :: A)).length = q.recs.length + (allP A).length := by unfold allP; simp
        rw [h4, e0]; push_cast; omega
      · rcases h5 with h5 | rfl
        · exact h5
        · rw [h4]; simp [allP]; omega
    · rw [if_neg hle]
      exact ⟨[], s, f, rfl, rfl, h, by simp [allP], .inr rfl, fun _ => by simp⟩
theorem start_chn {L : Lg} {s f : Int} (h : Chn s f L.parts) (h0 : L.parts = [] → f = 0) : L.start = f := by
  unfold Lg.start
  cases hq : L.parts with
  | nil => exact (h0 hq).symm
  | cons q r => rw [hq] at h; exact h.2.1
def DrI (W : World) (l : List PB) (m : Int) (p hb : Nat) : KL := fun x w1 => ∃ (u : Value) (i : Nat) (L : Lg) (D : Dk), x = [u, .int .i64 (i : Nat)] ∧ i ≤ l.length ∧ St W w1 (logA p hb L :: diskA hb D :: []) ∧ Put L D m i ((dat l).take i)
theorem drops_end {W w : World} {v1 : Value} {l : List PB} {m n : Int} {p hb : Nat} {L : Lg} {D : Dk} {R : List Asn} {K : KV} (h : ∀ w', Fr (fun _ => False) W w' → K (.bool true) w') (hl : SlP W v1 l) (hln : l.length ≤ 60) (hm : 64 ≤ m ∧ m ≤ 1048576) (hn : 0 ≤ n) (S : St W w (logA p hb L :: diskA hb D :: R)) (hput : Put L D m l.length (dat l)) {x : List Value} : M.winnowlaw07_WalDrops.j2 (.pointer (some ⟨p, 0, none⟩)) (.int .i64 n) v1 x (.pointer (some ⟨hb, 0, none⟩)) (.int .i64 m) w K := by
  have hg := hput.good
  have hv := hg.vir
  have hall := hput.all
  have hnx := next_chn hv.chn hv.s0 (fun h => (hv.nil h).2) hv.f0 hv.few
  rw [hall, dat_len] at hnx
  have hst : L.start = 0 := start_chn hv.chn fun _ => rfl
  have hmost := hput.most
  have hlen := fun w' K => hl.len w' K
  unfold M.winnowlaw07_WalDrops.j2
  have e0 : Lg.mk m L.parts = L := by rw [← hmost]
  refine drop_st S (by have := hv.len; omega) n fun w1 S1 => ?_
  unfold Lg.drop at S1 ⊢
  by_cases hnl : (l.length : Int) < n
  · rw [if_pos (.inr (by omega))] at S1 ⊢
    simp [hlen, hnl]
    refine first_st S1 ?_
    simp [hst]
    exact alive7 fun w' f' => h w' (S1.fr.trans f')
  · rw [if_neg (by omega), hg.up] at S1 ⊢
    simp only [Bool.false_eq_true, if_false] at S1 ⊢
    have hg' : Good 0 0 ⟨m, L.parts⟩ 0 D := e0.symm ▸ hg
    obtain ⟨A, s', f', h1, h2, h3, h4, h5, h6⟩ := gdrop (n := n) L.parts hg'
    rw [hmost] at S1
    rw [h2]
    generalize (dropG n L.parts D).1.1 = B at *
    generalize (dropG n L.parts D).1.2 = D1 at *
    have hAB : dat l = allP A ++ allP B := by rw [← hall, h1, allP_append]
    have hdrop : allP B = (dat l).drop (allP A).length := by rw [hAB, List.drop_left' rfl]
    have hAl : (allP A).length ≤ l.length := by have := congrArg List.length hAB; rw [dat_len, List.length_append] at this; omega
    have hstB : Lg.start ⟨m, B⟩ = ((allP A).length : Nat) := by
      rw [start_chn h3.vir.chn fun hx => (h3.vir.nil hx).2, h4]; omega
    have hAn : ((allP A).length : Int) ≤ n := by
      rcases h5 with h5 | rfl
      · omega
      · simp [allP]; omega
    simp [hlen, hnl]
    unfold M.winnowlaw07_WalDrops.j6
    refine first_st S1 ?_
    rw [hstB]
    obtain ⟨s5, f5, Q5, D5, eo5, z1, _, _, _, _, _, z7, _⟩ := vopen h3.vir h3.up (most := m) hm
    obtain ⟨rfl, rfl, rfl, rfl⟩ := z7 trivial
    refine opn_st S1.swap (by omega) (fun w3 hn _ => by rw [eo5] at hn; cases hn) fun w2 p2 qs hs S2 => ?_
    rw [eo5] at hs S2
    have hqs : qs = Q5 := by simpa using (congrArg (·.1.2) hs).symm
    subst hqs
    generalize hkk : (allP A).length = k at *
    have c1 : ¬ n < (k : Int) := by omega
    have c2 : ¬ (k : Int) < 0 := by omega
    have c3 : ¬ (l.length : Int) < (k : Int) := by omega
    have c3' : ¬ l.length < k := by omega
    simp only [ptr0]
    simp [hlen, c1, c2, c3, c3']
    unfold M.winnowlaw07_WalDrops.j7
    obtain ⟨sv, hsl, hsr⟩ := hl.sub (lo := some (.int .i64 (k : Nat))) (hi := none) (i := k) (j := l.length) (.inr ⟨_, rfl⟩) (.inl ⟨rfl, rfl⟩) hAl (Nat.le_refl _)
    have etk : (l.drop k).take (l.length - k) = l.drop k := List.take_of_length_le (by simp)
    rw [etk] at hsr
    have hall5 : allP qs = dat (l.drop k) := by rw [hdrop, dat_drop]
    have hrec8 : ∀ {l6 : List PB}, dat l6 = allP qs → ∀ x ∈ l6, x.2.length ≤ 1000000000 := fun {l6} e6 x hx => by
      have : x.2 ∈ dat l6 := List.mem_map_of_mem hx
      rw [e6] at this
      have := allP_rec z1.vir.chn _ this
      omega
    have hlen6 : ∀ {l6 : List PB}, dat l6 = allP qs → l6.length ≤ 1000000 := fun {l6} e6 => by rw [← dat_len, e6, hall5, dat_len]; simp; omega
    simp [hsl]
    have S3 : St W (dr w2 1) (logA p hb ⟨m, qs⟩ :: diskA hb D5 :: logA p2 hb ⟨m, qs⟩ :: R) := (St.up2 (S2.step ((Fr.refl _ w2).dr 1))).perm (.cons _ (.swap _ _ _))
    refine grecs_st S3 z1 fun w3 v3 S4 => ?_
    simp only at S4
    obtain ⟨l3, e3, r3⟩ := list_rd S4
    refine same02 r3 (hsr (hl.fr S4.fr)) (e3.trans hall5) (hlen6 e3) (hrec8 e3) fun w4 f4 => ?_
    have S5 := S4.step f4
    simp
    refine first_st S5.up3 ?_
    rw [hstB]
    simp [hsl]
    refine grecs_st S5.up3.up3.swap z1 fun w5 v5 S6 => ?_
    simp only at S6
    obtain ⟨l5, e5, r5⟩ := list_rd S6
    refine same02 r5 (hsr (hl.fr S6.fr)) (e5.trans hall5) (hlen6 e5) (hrec8 e5) fun w6 f6 => ?_
    simp
    exact alive7 fun w' f' => h w' ((S6.fr.trans f6).trans f')
theorem WalDrops_law {W : World} {n1 : Nat} {v1 : Value} {a0 a2 : Int} (h0 : (Lit.int .i64 a0).wf = true) (h1 : TV P W n1 T.sl_sl_uint8 [v1]) (h2 : (Lit.int .i64 a2).wf = true) {K : KV} (h : ∀ w', Fr (fun _ => False) W w' → K (.bool true) w') : callT P F.winnowlaw07_WalDrops [.int .i64 a0, v1, .int .i64 a2] W K := by
  apply M.winnowlaw07_WalDrops.calls
  unfold M.winnowlaw07_WalDrops
  obtain ⟨l, hl⟩ := rows_arg h1
  have hlen := fun w' K => hl.len w' K
  by_cases c1 : 60 < l.length
  · have c1' : (60 : Int) < (l.length : Int) := by omega
    simp [hlen, c1']
    exact alive7 h
  have c1' : ¬ (60 : Int) < (l.length : Int) := by omega
  by_cases c2 : a0 < 64
  · simp [hlen, c1', c2]
    exact alive7 h
  by_cases c3 : 1048576 < a0
  · simp [hlen, c1', c2, c3]
    exact alive7 h
  by_cases c4 : a2 < 0
  · simp [hlen, c1', c2, c3, c4]
    exact alive7 h
  simp [hlen, c1', c2, c3, c4]
  unfold M.winnowlaw07_WalDrops.j0
  refine dnew_ok (St.start W) 1048576 (fun h => by omega) fun _ _ w1 hb S1 => ?_
  simp
  refine open_new S1 (by omega) fun w3 p S3 => ?_
  simp only [ptr0]
  simp
  refine ⟨DrI W l a0 p hb, fun x _ => l.length - ms x 1, ⟨_, 0, _, _, rfl, Nat.zero_le _, S3, put_start a0⟩, ?_⟩
  rintro x w5 ⟨u0, i, L, D, rfl, hi, S5, hp⟩
  have hlw := hl.fr S5.fr
  unfold M.winnowlaw07_WalDrops.j3
  have hw : IntKind.i64.wrap ((i : Int) + 1) = ((i + 1 : Nat) : Int) := by rw [wrap_id (by omega) (by omega)]; omega
  by_cases hil : i < l.length
  · have hili : (i : Int) < (l.length : Int) := by omega
    simp [hlen, hil]
    unfold M.winnowlaw07_WalDrops.j4
    obtain ⟨b, o, sv, hia, hc, hr⟩ := hlw.at hil
    have cc := hc hlw
    have hsb := hr hlw
    have hbl : ∀ w' K, biT P .len #[T.sl_uint8] T.int [false] [sv.v] w' K = K (.int .i64 l[i].2.length) w' := fun w' K => hsb.len_ok (by kernel_rfl) [false]
    simp only [SV.v] at cc hbl
    by_cases c6 : 500 < l[i].2.length
    · have c6' : (500 : Int) < (l[i].2.length : Int) := by omega
      simp [hia, cc, hbl, c6']
      exact alive7 fun w' f' => h w' (S5.fr.trans f')
    · have c6' : ¬ (500 : Int) < (l[i].2.length : Int) := by omega
      simp [hia, cc, hbl, c6']
      have htl : (dat l).take i ++ [l[i].2] = (dat l).take (i + 1) := by rw [List.take_succ_eq_append_getElem (by rw [dat_len]; exact hil), dat_at l hil]
      refine lappend_st S5 (lgB_of S5.swap hp.good) (by omega) (fun w' L' S' => hr (hl.fr S'.fr)) fun w6 S8 => ?_
      obtain ⟨k0, hput', _, _⟩ := put_more hp (b := l[i].2) (by omega) (by omega) (by simp [dat_len]; omega)
      rw [k0]
      rw [htl] at hput'
      simp
      rw [hw]
      exact ⟨⟨_, i + 1, _, _, rfl, hil, S8, hput'⟩, by simp [ms, gv]; omega⟩
  · have hili : ¬ (i : Int) < (l.length : Int) := by omega
    simp [hlen, hil]
    have e : i = l.length := by omega
    rw [e, List.take_of_length_le (by rw [dat_len]; omega)] at hp
    exact drops_end h hl (by omega) (by omega) (by omega) S5 hp
end Go.Proofs.Ytkjhekflgghbdaa
set_option maxRecDepth 100000
namespace Go.Proofs.Ytkjhekflgghbdaa
open Go.Eng Go.Proofs.Ytkjhekflgghbdaa.Sint
structure Op7 where
  kind : Int
  n : Int
  bv : Value
  kv : Value
  b : List Int
  keep : List Int
def cells7 (x : Op7) : List Value := [.int .i64 x.kind, .int .i64 x.n, x.bv, x.kv]
def op7 (w : World) (b o : Nat) (x : Op7) : Prop := (∀ j u, (cells7 x)[j]? = some u → cellOf w b (o + j) = some u) ∧ SlB w x.bv x.b ∧ SlI w x.kv x.keep ∧ x.n < 9223372036854775808
theorem wf_hi {x : Int} (h : (Lit.int .i64 x).wf = true) : x < 9223372036854775808 := by
  simp [Lit.wf, IntKind.min, IntKind.max, IntKind.bits, IntKind.signed] at h
  omega
theorem ints_arg {w : World} {n : Nat} {v : Value} (h : TV P w n T.sl_int [v]) : ∃ l, SlI w v l := by
  refine sl_of_tv (sz := 1) (rd := rdE encL) (e := T.int) (by kernel_rfl) (by kernel_rfl) (by decide) (fun n b o cs ht hl hc => ?_) h
  obtain ⟨x, hx, _⟩ := tv_int (k := .i64) (by kernel_rfl) ht
  subst hx
  exact ⟨x, fun j u hj => hc j u hj⟩
theorem ops7_of {w : World} {n : Nat} {v : Value} (h : TV P w n T.sl_winnowlaw07_Op [v]) : ∃ l, SlOf w 4 op7 v l := by
  have hel := et.sl_winnowlaw07_Op
  refine sl_of_tv (sz := 4) (rd := op7) (e := T.winnowlaw07_Op) hel.ty (by kernel_rfl) (by decide) (fun n b o cs ht hl hc => ?_) h
  have hu := Try.underlying99
  obtain ⟨_, hf⟩ := tv_struct hu ht
  obtain ⟨m0, t0⟩ : ∃ m, TV P w m T.int ((cs.drop 0).take (P.cellsOf T.int)) := hf 0 _ rfl
  obtain ⟨m1, t1⟩ : ∃ m, TV P w m T.int ((cs.drop 1).take (P.cellsOf T.int)) := hf 1 _ rfl
  obtain ⟨m3, t3⟩ : ∃ m, TV P w m T.sl_uint8 ((cs.drop 2).take (P.cellsOf T.sl_uint8)) := hf 2 _ rfl
  obtain ⟨m4, t4⟩ : ∃ m, TV P w m T.sl_int ((cs.drop 3).take (P.cellsOf T.sl_int)) := hf 3 _ rfl
  have c0 : P.cellsOf T.int = 1 := by kernel_rfl
  have c1 : P.cellsOf T.sl_uint8 = 1 := by kernel_rfl
  have c2 : P.cellsOf T.sl_int = 1 := by kernel_rfl
  match cs, hl with
  | [u0, u1, u3, u4], _ =>
    simp only [c0, c1, c2, List.drop_zero, List.drop_succ_cons, List.take_succ_cons, List.take_zero] at t0 t1 t3 t4
    obtain ⟨x0, e0, _⟩ := tv_int (k := .i64) (by kernel_rfl) t0
    obtain ⟨x1, e1, w1⟩ := tv_int (k := .i64) (by kernel_rfl) t1
    obtain ⟨l3, s3⟩ := bytes_arg t3
    obtain ⟨l4, s4⟩ := ints_arg t4
    simp only [List.cons.injEq, and_true] at e0 e1
    subst e0 e1
    exact ⟨⟨x0, x1, u3, u4, l3, l4⟩, hc, s3, s4, wf_hi w1⟩
section
variable {w0 w w' : World} {R : List Asn} {v : Value} {l : List Op7}
theorem op7_fr {b o : Nat} {x : Op7} (hb : b < w.heap.size) (h : op7 w b o x) (hf : Fr (fun _ => False) w w') : op7 w' b o x :=
  ⟨fun j u hj => by rw [cellOf_heap (hf.keep b hb fun h => h)]; exact h.1 j u hj, h.2.1.fr hf fun _ _ _ h => h, h.2.2.1.fr hf fun _ _ _ h => h, h.2.2.2⟩
theorem ops7_fr (h : SlOf w 4 op7 v l) (hf : Fr (fun _ => False) w w') : SlOf w' 4 op7 v l := h.keep hf.size fun b o x hb hr => op7_fr hb hr hf
theorem ops7_at (h : SlOf w 4 op7 v l) {i : Nat} (hi : i < l.length) : ∃ b o, (∀ w' K, iaT P T.sl_winnowlaw07_Op v (.int .i64 (i : Nat)) w' K = K (.pointer (some ⟨b, o, none⟩)) w') ∧ b < w.heap.size ∧ op7 w b o l[i] := by
  have hss : szE P T.sl_winnowlaw07_Op = 4 := by kernel_rfl
  obtain ⟨a, cap, hv, _, _, h3⟩ := h
  obtain ⟨b, o, rfl, hb, hr⟩ := h3 i l[i] (List.getElem?_eq_getElem hi)
  exact ⟨b, o + i * 4, fun w' K => by rw [hv]; simp [hi], hb, hr⟩
theorem op7_cells {b o : Nat} {x : Op7} (h : op7 w b o x) : cellOf w b o = some (.int .i64 x.kind) ∧ cellOf w b (o + 1) = some (.int .i64 x.n) ∧ cellOf w b (o + 2) = some x.bv ∧ cellOf w b (o + 3) = some x.kv :=
  ⟨h.1 0 _ rfl, h.1 1 _ rfl, h.1 2 _ rfl, h.1 3 _ rfl⟩
def Lg7 (w : World) (l : List Op7) : KL := fun x w1 => ∃ (u : Value) (n : Int) (i : Nat), x = [u, .int .i64 n, .int .i64 (i : Nat)] ∧ w1 = w ∧ i ≤ l.length ∧ ∀ (j : Nat) y, l[j]? = some y → j < i → y.b.length ≤ 9000
theorem light7 (hs : SlOf w 4 op7 v l) {K : KV} (h : ∀ bb, (bb = true → l.length ≤ 60 ∧ ∀ x ∈ l, x.b.length ≤ 9000) → K (.bool bb) w) : fcallT P F.winnowlaw07_light [v] w K := by
  rw [M.winnowlaw07_light.fcall]
  apply M.winnowlaw07_light.calls
  unfold M.winnowlaw07_light
  have hlen : ∀ w' K, biT P .len #[T.sl_winnowlaw07_Op] T.int [false] [v] w' K = K (.int .i64 l.length) w' := fun w' K => hs.len_ok (by kernel_rfl) [false]
  by_cases hl : 60 < l.length
  · have : (60 : Int) < l.length := by omega
    simp [hlen, this]
    exact h false fun h => by cases h
  have hn : ¬ (60 : Int) < l.length := by omega
  simp [hlen, hn]
  refine ⟨Lg7 w l, fun x _ => l.length - ms x 2, ⟨_, _, 0, rfl, rfl, Nat.zero_le _, fun j k _ h => by omega⟩, ?_⟩
  rintro x w1 ⟨u, n, i, rfl, rfl, hi, hz⟩
  unfold M.winnowlaw07_light.j2
  by_cases hil : i < l.length
  · have hil' : (i : Int) < l.length := by omega
    obtain ⟨b, o, hia, hb, hr⟩ := ops7_at hs hil
    obtain ⟨k0, k1, k2, k3⟩ := op7_cells hr
    obtain ⟨s1, s2, _⟩ := hr.2
    have hbl : ∀ w' K, biT P .len #[T.sl_uint8] T.int [false] [l[i].bv] w' K = K (.int .i64 l[i].b.length) w' := fun w' K => s1.len_ok (by kernel_rfl) [false]
    have hwi : IntKind.i64.wrap ((i : Int) + 1) = ((i + 1 : Nat) : Int) := by rw [wrap_id (by omega) (by omega)]; rfl
    simp [hlen, hil]
    unfold M.winnowlaw07_light.j3
    by_cases h5 : 9000 < l[i].b.length
    · have : (9000 : Int) < l[i].b.length := by omega
      simp [hia, k2, hbl, this]
      exact h false fun h => by cases h
    · have : ¬ (9000 : Int) < l[i].b.length := by omega
      simp [hia, k2, hbl, this]
      unfold M.winnowlaw07_light.j5
      simp [hia, k2, hbl]
      rw [hwi]
      refine ⟨⟨_, _, i + 1, rfl, rfl, by omega, fun j y hj hlt => ?_⟩, by simp [ms, gv]; omega⟩
      by_cases hji : j = i
      · subst hji
        rw [List.getElem?_eq_getElem hil] at hj
        cases hj; omega
      · exact hz j y hj (by omega)
  · have hil' : ¬ (i : Int) < l.length := by omega
    simp [hlen, hil]
    refine h _ fun _ => ⟨by omega, fun x hx => ?_⟩
    obtain ⟨j, hj, rfl⟩ := List.getElem_of_mem hx
    exact hz j _ (List.getElem?_eq_getElem hj) (by omega)
end
/-! ### A list that grows by others' bytes -/
def mixA (W : World) (v : Value) (ds : List (List Int)) : Asn where
  ok w B := ∃ (vs : List SV) (ls : List (List Int)) (lp : List PB), vs.length = ls.length ∧ (∀ x ∈ lp, SlB W x.1.v x.2) ∧ dat (vs.zip ls ++ lp) = ds ∧ Rs [Eng.rowO T.sl_uint8 1 encQ v (vs.zip ls ++ lp), allA (rowsB vs ls)] w B
  keep := by
    rintro w w' B S ⟨vs, ls, lp, h1, h2, h3, h4⟩ hf hn
    exact ⟨vs, ls, lp, h1, h2, h3, h4.keep hf hn⟩
section
variable {W w : World} {R : List Asn} {v : Value} {ds ls : List (List Int)} {vs : List SV} {lp : List PB}
theorem unMix (S : St W w (mixA W v ds :: R)) : ∃ (vs : List SV) (ls : List (List Int)) (lp : List PB), vs.length = ls.length ∧ (∀ x ∈ lp, SlB W x.1.v x.2) ∧ dat (vs.zip ls ++ lp) = ds ∧ St W w (Eng.rowO T.sl_uint8 1 encQ v (vs.zip ls ++ lp) :: allA (rowsB vs ls) :: R) := by
  obtain ⟨B, ⟨vs, ls, lp, h1, h2, h3, h4⟩, _, cl⟩ := S.open
  exact ⟨vs, ls, lp, h1, h2, h3, cl w [Eng.rowO T.sl_uint8 1 encQ v (vs.zip ls ++ lp), allA (rowsB vs ls)] (Fr.refl _ _) (h4.mono fun b hb => .inl hb)⟩
theorem mkMix (h1 : vs.length = ls.length) (h2 : ∀ x ∈ lp, SlB W x.1.v x.2) (h3 : dat (vs.zip ls ++ lp) = ds) (S : St W w (Eng.rowO T.sl_uint8 1 encQ v (vs.zip ls ++ lp) :: allA (rowsB vs ls) :: R)) : St W w (mixA W v ds :: R) := by
  obtain ⟨U, h4, _, g⟩ := St.openL (L := [Eng.rowO T.sl_uint8 1 encQ v (vs.zip ls ++ lp), allA (rowsB vs ls)]) (R := R) S
  exact g w [mixA W v ds] (Fr.refl _ _) ⟨U, ⟨vs, ls, lp, h1, h2, h3, h4⟩, fun b hb => .inl hb, trivial⟩
theorem mixNil (S : St W w R) : St W w (mixA W (.slice none 0 0) [] :: R) := mkMix (vs := []) (ls := []) (lp := []) rfl (fun x hx => by simp at hx) rfl (nilRowO (St.all.2 S))
theorem mixList (S : St W w (listA v ls :: R)) : St W w (mixA W v ls :: R) := by
  obtain ⟨vs, hl, S1⟩ := unList S
  have hz : (vs.zip ls).length = vs.length := by simp; omega
  have hf : (vs.zip ls).flatMap encQ = vs.flatMap encSV := by
    have : vs = (vs.zip ls).map Prod.fst := (List.map_fst_zip (by omega)).symm
    conv => rhs; rw [this]
    rw [List.flatMap_map]
    rfl
  refine mkMix (vs := vs) (ls := ls) (lp := []) hl (fun x hx => by simp at hx) (by rw [List.append_nil]; exact dat_zip hl) ?_
  rw [List.append_nil]
  obtain ⟨B, ⟨h1, h2⟩, _, cl⟩ := S1.open
  refine cl w [Eng.rowO T.sl_uint8 1 encQ v (vs.zip ls)] (Fr.refl _ _) (Rs.one (B := fun x => v.ownBlock = some x) ⟨?_, fun b hb => hb⟩ fun x hx => .inl (h2 x hx))
  rcases h1 with ⟨rfl, h0⟩ | ⟨g, o, cap, cur, a1, a2, a3, a4, a5, a6⟩
  · exact .inl ⟨rfl, by rw [h0]; rfl⟩
  · exact .inr ⟨g, o, cap, cur, by rw [hz]; exact a1, a2, by omega, a4, a5, by rw [hf]; exact a6⟩
theorem mix_rd (S : St W w (mixA W v ds :: R)) : ∃ l, dat l = ds ∧ SlP w v l := by
  obtain ⟨vs, ls, lp, h1, h2, h3, S1⟩ := unMix S
  refine ⟨_, h3, S1.rowO encQ_len, fun x hx => ?_⟩
  rcases List.mem_append.1 hx with hx | hx
  · obtain ⟨i, hi, rfl⟩ := List.getElem_of_mem hx
    simp only [List.length_zip] at hi
    have S2 := St.listAt (j := i) (L := rowsB vs ls) (by simp [rowsB]; omega) S1.swap
    unfold rowsB at S2
    rw [List.getElem_zipWith] at S2
    rw [List.getElem_zip]
    exact S2.row encB_len
  · exact (h2 x hx).fr S1.fr fun _ _ _ h => h
theorem mix_push {bv : Value} {d : List Int} (S : St W w (mixA W v ds :: R)) (hb : SlB W bv d) (hl : ds.length ≤ 1000000) {cs : List Bool} {ty : TypeId} {K : KV} (h : ∀ w' v', St W w' (mixA W v' (ds ++ [d]) :: R) → K v' w') :
    bsT P T.sl_sl_uint8 1 #[(0, bv)] w fun t w => biT P .append #[T.sl_sl_uint8, T.sl_sl_uint8] ty cs [v, t] w K := by
  obtain ⟨a, c, hv, _⟩ := id hb
  have hbs : ∀ K', bsT P T.sl_sl_uint8 1 #[(0, bv)] w K' = K' (.slice (some ⟨w.heap.size, 0, none⟩) 1 1) (w.alloc (.cells #[bv] T.sl_uint8)) := fun K' => by rw [hv]; simp
  rw [hbs]
  obtain ⟨vs, ls, lp, h1, h2, h3, S1⟩ := unMix S
  have hx : SlB W (SV.v ⟨a, d.length, c⟩) d := by simpa [SV.v, ← hv] using hb
  have S2 : St W (w.alloc (.cells #[bv] T.sl_uint8)) (rowA T.sl_uint8 1 encQ (.slice (some ⟨w.heap.size, 0, none⟩) 1 1) [((⟨a, d.length, c⟩ : SV), d)] :: _) := St.newRow (l := [((⟨a, d.length, c⟩ : SV), d)]) S1 encQ_len (by simp [encQ, SV.v, hv]) (by simp [maxLen])
  have hlen : (vs.zip ls ++ lp).length ≤ 1000000 := by rw [← dat_len, h3]; exact hl
  refine moreRowO et.sl_sl_uint8 encQ_len encQ_one S2.swap (S2.row encQ_len) (by simp at hlen ⊢; omega) (by decide) fun w3 v3 S3 => ?_
  have S4 := S3.swap.drop
  rw [List.append_assoc] at S4
  refine h w3 v3 (mkMix (lp := lp ++ [((⟨a, d.length, c⟩ : SV), d)]) h1 (fun x hx' => ?_) ?_ S4)
  · rcases List.mem_append.1 hx' with hx' | hx'
    · exact h2 x hx'
    · rw [List.mem_singleton.1 hx']; exact hx
  · rw [← List.append_assoc]
    unfold dat at h3 ⊢
    rw [List.map_append, h3]; rfl
end
end Go.Proofs.Ytkjhekflgghbdaa
set_option maxRecDepth 100000
namespace Go.Proofs.Ytkjhekflgghbdaa
open Go.Eng Go.Proofs.Ytkjhekflgghbdaa.Sint
/-- What the walk keeps: the log and its disk, all that was appended, how many are fast. -/
def Keep (m : Int) (L : Lg) (D : Dk) (ds : List (List Int)) (F : Nat) : Prop := L.most = m ∧ F ≤ ds.length ∧ (∀ d ∈ ds, d.length ≤ 8192) ∧ ((D.down = false ∧ Good 0 0 L F D ∧ allP L.parts = ds) ∨ (D.down = true ∧ LgB L ∧ ∃ Q, Vir 0 0 Q F D False ∧ allP Q = ds))
section
variable {W w : World} {R : List Asn} {v : Value} {ds : List (List Int)} {m : Int} {L : Lg} {D : Dk} {F : Nat} {p hb : Nat} {b : List Int}
theorem keep_lgB (h : Keep m L D ds F) (S : St W w (diskA hb D :: R)) : LgB L := by
  rcases h.2.2.2 with ⟨_, g, _⟩ | ⟨_, g, _⟩
  · exact lgB_of S g
  · exact g
theorem vir_fs {s f : Int} {Q : List Prt} {w : Prop} {D' : Dk} (h : Vir s f Q F D w) (he : D'.fs = D.fs) : Vir s f Q F D' w := by
  refine ⟨h.chn, h.s0, h.f0, h.len, h.few, ?_, h.nil, h.siz⟩
  have := h.dsc
  unfold Dsc at this ⊢
  rw [he]; exact this
theorem keep_arm (h : Keep m L D ds F) (n : Int) : Keep m L { D with armed := decide (0 ≤ n), left := n } ds F := by
  refine ⟨h.1, h.2.1, h.2.2.1, ?_⟩
  rcases h.2.2.2 with ⟨h1, g, h3⟩ | ⟨h1, g, Q, h2, h3⟩
  · exact .inl ⟨h1, ⟨vir_fs g.vir rfl, g.size, h1⟩, h3⟩
  · exact .inr ⟨h1, g, Q, vir_fs h2 rfl, h3⟩
/-- An Append: what is kept, by what it answers. -/
theorem keep_app (h : Keep m L D ds F) (hB : LgB L) (hds : ds.length ≤ 1000) :
    ((((L.append D b).2 = 0 ∨ ((L.append D b).2 = 10 ∧ D.down = false)) ∧ Keep m (L.append D b).1.1 (L.append D b).1.2 (ds ++ [b]) F)) ∨
    ((L.append D b).2 ≠ 0 ∧ ¬ ((L.append D b).2 = 10 ∧ D.down = false) ∧ Keep m (L.append D b).1.1 (L.append D b).1.2 ds F) := by
  obtain ⟨hm, hF, h8, h⟩ := h
  rcases h with ⟨hd, g, ha⟩ | ⟨hd, _, Q, hv, ha⟩
  · have hap := lapp (b := b) g (by rw [ha]; omega)
    have hbl : ∀ {z : (Lg × Dk) × Int}, App 0 0 L F D b z → (z.2 = 0 ∨ z.2 = 10) → b.length ≤ 8192 := fun {z} hz hk => by
      cases hz with
      | large hx => rcases hk with hk | hk <;> simp at hk
      | full => rcases hk with hk | hk <;> simp at hk
      | down D' Q _ _ hv hq _ => exact allP_rec hv.chn _ (by rw [hq]; simp)
      | ok L' D' hg hq _ _ _ _ _ _ _ => exact allP_rec hg.vir.chn _ (by rw [hq]; simp)
    have hbl2 := hbl hap
    generalize L.append D b = r at *
    have h82 : (r.2 = 0 ∨ r.2 = 10) → ∀ d ∈ ds ++ [b], d.length ≤ 8192 := fun hk d hd => by
      rcases List.mem_append.1 hd with hd | hd
      · exact h8 d hd
      · rw [List.mem_singleton.1 hd]; exact hbl2 hk
    cases hap with
    | large hx => exact .inr ⟨by simp, by simp, hm, hF, h8, .inl ⟨hd, g, ha⟩⟩
    | full D' _ g' _ _ => exact .inr ⟨by simp, by simp, hm, hF, h8, .inl ⟨g'.up, g', ha⟩⟩
    | down D' Q _ h2 hv hq _ => exact .inl ⟨.inr ⟨rfl, hd⟩, hm, by simp; omega, h82 (.inr rfl), .inr ⟨h2, hB, Q, hv, by rw [hq, ha]⟩⟩
    | ok L' D' g' hq _ _ hmm _ _ _ _ => exact .inl ⟨.inl rfl, hmm.trans hm, by simp; omega, h82 (.inl rfl), .inl ⟨g'.up, g', by rw [hq, ha]⟩⟩
  · obtain ⟨k, e, hk⟩ := lapp_down (L := L) (b := b) hd
    rw [e]
    exact .inr ⟨hk, by rw [hd]; simp, hm, hF, h8, .inr ⟨hd, hB, Q, hv, ha⟩⟩
theorem keep_sync (h : Keep m L D ds F) : ((L.sync D).2 = 0 ∧ Keep m L (L.sync D).1 ds ds.length) ∨ ((L.sync D).2 ≠ 0 ∧ Keep m L (L.sync D).1 ds F) := by
  obtain ⟨hm, hF, h8, h⟩ := h
  rcases h with ⟨hd, g, ha⟩ | ⟨hd, hB, Q, hv, ha⟩
  · obtain ⟨y1, y2, y3, _⟩ := vsync g.vir hd
    rw [ha] at y2
    exact .inl ⟨y1, hm, Nat.le_refl _, h8, .inl ⟨y3, ⟨y2, g.size, y3⟩, ha⟩⟩
  · have e : L.sync D = (D, 10) := by unfold Lg.sync; rw [hd]; rfl
    rw [e]
    exact .inr ⟨by simp, hm, hF, h8, .inr ⟨hd, hB, Q, hv, ha⟩⟩
/-- A crash, and the log opened again. -/
theorem keep_crash (h : Keep m L D ds F) (hm : 64 ≤ m ∧ m ≤ 1048576) (kl : List Int) : ∃ Q' D', openF (D.crash kl) m = ((D', some Q'), 0) ∧ Good 0 0 ⟨m, Q'⟩ 0 D' ∧ allP Q' = ds.take (allP Q').length ∧ F ≤ (allP Q').length ∧ (allP Q').length ≤ ds.length := by
  have : ∃ Q w, Vir 0 0 Q F D w ∧ allP Q = ds := by
    rcases h.2.2.2 with ⟨_, g, ha⟩ | ⟨_, _, Q, hv, ha⟩
    · exact ⟨_, _, g.vir, ha⟩
    · exact ⟨Q, _, hv, ha⟩
  obtain ⟨Q, w, hv, ha⟩ := this
  obtain ⟨c1, c2, _, _⟩ := vcrash hv kl
  obtain ⟨s', f', Q', D', eo, g1, _, _, ⟨j, g4⟩, g5, g6, _, _, _⟩ := vopen c1 c2 hm
  obtain ⟨rfl, rfl⟩ := g6 rfl rfl
  rw [ha] at g4
  exact ⟨Q', D', eo, g1, allP_len_take g4, g5, by rw [g4, List.length_take]; omega⟩
end
def PxI (W : World) (l : List Op7) (m : Int) (hb : Nat) : KL := fun x w1 => ∃ (u0 u1 u2 u4 u6 u7 u8 u9 u10 u12 av : Value) (p i F : Nat) (L : Lg) (D : Dk) (ds : List (List Int)), x = [u0, u1, u2, av, u4, .int .i64 (F : Nat), u6, u7, u8, u9, u10, ptr0 p, u12, .int .i64 (i : Nat)] ∧ i ≤ l.length ∧ ds.length ≤ i ∧ Keep m L D ds F ∧ St W w1 (logA p hb L :: diskA hb D :: mixA W av ds :: [])
theorem WalPrefix_law {W : World} {n1 : Nat} {v1 : Value} {a0 : Int} (h0 : (Lit.int .i64 a0).wf = true) (h1 : TV P W n1 T.sl_winnowlaw07_Op [v1]) {K : KV} (h : ∀ w', Fr (fun _ => False) W w' → K (.bool true) w') : callT P F.winnowlaw07_WalPrefix [.int .i64 a0, v1] W K := by
  apply M.winnowlaw07_WalPrefix.calls
  unfold M.winnowlaw07_WalPrefix
  obtain ⟨l, hl⟩ := ops7_of h1
  have hlen : ∀ w' K, biT P .len #[T.sl_winnowlaw07_Op] T.int [false] [v1] w' K = K (.int .i64 l.length) w' := fun w' K => hl.len_ok (by kernel_rfl) [false]
  refine light7 hl fun bb hbb => ?_
  cases bb with
  | false =>
    simp
    exact alive7 h
  | true =>
  obtain ⟨h60, hb9⟩ := hbb rfl
  by_cases c2 : a0 < 64
  · simp [c2]
    exact alive7 h
  by_cases c3 : 1048576 < a0
  · simp [c2, c3]
    exact alive7 h
  simp [c2, c3]
  unfold M.winnowlaw07_WalPrefix.j0
  refine dnew_ok (St.start W) 1048576 (fun h => by omega) fun _ _ w1 hb S1 => ?_
  simp
  refine open_new S1 (by omega) fun w3 p S3 => ?_
  simp only [ptr0]
  simp
  unfold M.winnowlaw07_WalPrefix.j1
  have S4 : St W w3 (logA p hb ⟨a0, []⟩ :: diskA hb _ :: mixA W (.slice none 0 0) [] :: []) := (mixNil S3).dn2
  have hk0 : Keep a0 ⟨a0, []⟩ ⟨1048576, 0, false, false, []⟩ [] 0 := ⟨rfl, Nat.le_refl _, fun d hd => by simp at hd, .inl ⟨rfl, (put_start a0).good, rfl⟩⟩
  simp
  refine ⟨PxI W l a0 hb, fun x _ => l.length - ms x 13, ⟨_, _, _, _, _, _, _, _, _, _, _, p, 0, 0, _, _, [], rfl, Nat.zero_le _, Nat.zero_le _, hk0, S4⟩, ?_⟩
  rintro x w5 ⟨u0, u1, u2, u4, u6, u7, u8, u9, u10, u12, av, p, i, F, L, D, ds, rfl, hi, hds, hk, S5⟩
  unfold M.winnowlaw07_WalPrefix.j3
  have hw : IntKind.i64.wrap ((i : Int) + 1) = ((i + 1 : Nat) : Int) := by rw [wrap_id (by omega) (by omega)]; omega
  by_cases hil : i < l.length
  · have hili : (i : Int) < (l.length : Int) := by omega
    simp [hlen, hil]
    unfold M.winnowlaw07_WalPrefix.j4
    have hl5 := ops7_fr hl S5.fr
    obtain ⟨b, o, hia, hb0, hr0⟩ := ops7_at hl hil
    have hrd : ∀ {w' : World} {L' : List Asn}, St W w' L' → op7 w' b o l[i] := fun S' => op7_fr hb0 hr0 S'.fr
    obtain ⟨k0, k1, k2, k3⟩ := op7_cells (hrd S5)
    have hb9i := hb9 _ (List.getElem_mem hil)
    simp only [ptr0]
    have next : ∀ {w' : World} {u0 u1 u2 u4 u6 u7 u8 u9 u10 u12 av : Value} {p F : Nat} {L : Lg} {D : Dk} {ds : List (List Int)}, ds.length ≤ i + 1 → Keep a0 L D ds F → St W w' (logA p hb L :: diskA hb D :: mixA W av ds :: []) →
        PxI W l a0 hb [u0, u1, u2, av, u4, .int .i64 (F : Nat), u6, u7, u8, u9, u10, .pointer (some ⟨p, 0, none⟩), u12, .int .i64 (IntKind.i64.wrap ((i : Int) + 1))] w' := fun {w' u0 u1 u2 u4 u6 u7 u8 u9 u10 u12 av p F L D ds} a b c => ⟨_, _, _, _, _, _, _, _, _, _, _, p, i + 1, F, L, D, ds, by rw [hw]; rfl, hil, a, b, c⟩
    generalize hop : l[i] = op at *
    by_cases e0 : op.kind = 0
    · simp [hia, k0, e0]
      refine down_st S5.swap ?_
      simp [hia, k2]
      have hB := keep_lgB hk S5.swap
      refine lappend_st S5 hB (by omega) (fun w' L' S' => (hrd S').2.1) fun w6 S6 => ?_
      obtain ⟨_, _, g2, _⟩ := op7_cells (hrd S6)
      have hpush : ∀ {K' : KV} {cs : List Bool} {ty : TypeId}, (∀ w' v', St W w' (mixA W v' (ds ++ [op.b]) :: logA p hb (L.append D op.b).1.1 :: diskA hb (L.append D op.b).1.2 :: []) → K' v' w') → bsT P T.sl_sl_uint8 1 #[(0, op.bv)] w6 fun t w => biT P .append #[T.sl_sl_uint8, T.sl_sl_uint8] ty cs [av, t] w K' := fun hh => mix_push S6.up2 hr0.2.1 (by omega) hh
      rcases keep_app (b := op.b) hk hB (by omega) with ⟨hkk, hk'⟩ | ⟨hk1, hk2, hk'⟩
      · generalize L.append D op.b = r at *
        rcases hkk with e | ⟨e, hd⟩
        · rw [e]
          simp [hia, g2]
          refine hpush fun w7 v7 S7 => ?_
          exact ⟨next (by simp; omega) hk' S7.dn2, by simp [ms, gv]; omega⟩
        · rw [e, hd]
          simp [hia, g2]
          refine hpush fun w7 v7 S7 => ?_
          exact ⟨next (by simp; omega) hk' S7.dn2, by simp [ms, gv]; omega⟩
      · generalize L.append D op.b = r at *
        by_cases h10 : r.2 = 10
        · have hd : D.down = true := by
            cases hd : D.down with
            | true => rfl
            | false => exact absurd ⟨h10, hd⟩ hk2
          rw [h10, hd]
          simp
          exact ⟨next (by omega) hk' S6, by simp [ms, gv]; omega⟩
        · simp [hk1, h10]
          exact ⟨next (by omega) hk' S6, by simp [ms, gv]; omega⟩
    by_cases e1 : op.kind = 1
    · simp [hia, k0, e0, e1]
      refine lsync_st S5 (by have := (keep_lgB hk S5.swap).few; omega) fun w6 S6 => ?_
      rcases keep_sync hk with ⟨e, hk'⟩ | ⟨e, hk'⟩
      · rw [e]
        obtain ⟨lm, elm, rdm⟩ := mix_rd S6.up2
        have hlm := fun w' K => rdm.len w' K
        have : lm.length = ds.length := by rw [← elm, dat_len]
        rw [this] at hlm
        simp [hlm]
        exact ⟨next (by omega) hk' S6, by simp [ms, gv]; omega⟩
      · simp [e]
        exact ⟨next (by omega) hk' S6, by simp [ms, gv]; omega⟩
    by_cases e3 : op.kind = 3
    · simp [hia, k0, k1, e0, e1, e3]
      refine arm_st S5.swap hr0.2.2.2 fun w6 S6 => ?_
      exact ⟨next (by omega) (keep_arm hk op.n) S6.swap, by simp [ms, gv]; omega⟩
    by_cases e4 : op.kind = 4
    · simp [hia, k0, k3, e0, e1, e3, e4]
      refine crash_st S5.swap (kl := op.keep) (fun w' L' S' => (hrd S').2.2.1) fun w6 S6 => ?_
      obtain ⟨Q', D', eo, g1, g2, g3, g4⟩ := keep_crash hk (by omega) op.keep
      refine opn_st S6 (by omega) (fun w7 hn _ => by rw [eo] at hn; cases hn) fun w7 p2 qs hs S7 => ?_
      rw [eo] at hs S7
      have hqs : qs = Q' := by simpa using (congrArg (·.1.2) hs).symm
      subst hqs
      simp only [ptr0]
      simp
      unfold M.winnowlaw07_WalPrefix.j6
      refine grecs_st S7 g1 fun w8 mv S8 => ?_
      simp only at S8
      obtain ⟨lm, elm, rdm⟩ := list_rd S8
      obtain ⟨la, ela, rda⟩ := mix_rd S8.up4
      have hlm := fun w' K => rdm.len w' K
      have hla := fun w' K => rda.len w' K
      have n1 : lm.length = (allP qs).length := by rw [← elm, dat_len]
      have n2 : la.length = ds.length := by rw [← ela, dat_len]
      rw [n1] at hlm
      rw [n2] at hla
      have c1 : ¬ ((allP qs).length : Int) < (F : Int) := by omega
      have c2 : ¬ (ds.length : Int) < ((allP qs).length : Int) := by omega
      have c1' : ¬ (allP qs).length < F := by omega
      have c2' : ¬ ds.length < (allP qs).length := by omega
      obtain ⟨sv, hsl, hsr⟩ := rda.sub (lo := none) (hi := some (.int .i64 ((allP qs).length : Nat))) (i := 0) (j := (allP qs).length) (.inl ⟨rfl, rfl⟩) (.inr ⟨_, rfl⟩) (Nat.zero_le _) (by omega)
      have hsr2 := hsr rda
      rw [List.drop_zero, Nat.sub_zero] at hsr2
      simp [hlm, hla, c1, c2, c1', c2', hsl]
      refine same02 rdm hsr2 (by rw [elm, dat_take, ela, ← g2]) (by omega) (fun x hx => ?_) fun w9 f9 => ?_
      · have : x.2 ∈ dat lm := List.mem_map_of_mem hx
        rw [elm] at this
        have := allP_rec g1.vir.chn _ this
        omega
      have S9 := S8.step f9
      simp
      refine first_st S9.swap ?_
      have hst : Lg.start ⟨a0, qs⟩ = 0 := start_chn g1.vir.chn fun _ => rfl
      rw [hst]
      simp
      unfold M.winnowlaw07_WalPrefix.j7
      have S10 : St W w9 (logA p2 hb ⟨a0, qs⟩ :: diskA hb D' :: listA mv (allP qs) :: _) := S9.dn2
      refine lsync_st S10 (by have := g1.vir.len; simp only at this ⊢; omega) fun w10 S11 => ?_
      obtain ⟨y1, y2, y3, _⟩ := vsync g1.vir g1.up
      rw [y1]
      simp [hlm]
      have hk' : Keep a0 ⟨a0, qs⟩ (Lg.sync ⟨a0, qs⟩ D').1 (allP qs) (allP qs).length := ⟨rfl, Nat.le_refl _, allP_rec g1.vir.chn, .inl ⟨y3, ⟨y2, g1.size, y3⟩, rfl⟩⟩
      have S12 : St W w10 (logA p2 hb ⟨a0, qs⟩ :: diskA hb (Lg.sync ⟨a0, qs⟩ D').1 :: mixA W mv (allP qs) :: []) := by
        have T1 := mixList S11.up2
        exact (St.dn2 T1).up3.drop.up3.drop
      exact ⟨next (by omega) hk' S12, by simp [ms, gv]; omega⟩
    simp [hia, k0, e0, e1, e3, e4]
    exact ⟨next (by omega) hk S5, by simp [ms, gv]; omega⟩
  · have hili : ¬ (i : Int) < (l.length : Int) := by omega
    simp [hlen, hil]
    exact alive7 fun w' f' => h w' (S5.fr.trans f')
end Go.Proofs.Ytkjhekflgghbdaa
