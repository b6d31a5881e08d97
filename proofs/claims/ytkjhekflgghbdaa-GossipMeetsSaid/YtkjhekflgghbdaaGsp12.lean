/-
  The law GossipMeets. No condition.
-/
import Derived.Test.YtkjhekflgghbdaaZGsp1
set_option maxRecDepth 100000
namespace Go.Proofs.Ytkjhekflgghbdaa
open Go.Eng
/-- Who has told whom, where i is about to tell j. -/
def Told (i j s k : Nat) : Prop := s ≠ k ∧ (s < i ∨ s = i ∧ k < j)
/-- The state within a round. -/
structure Mid (N r i j : Nat) (ns0 ns : List Nd) : Prop where
  a : r = 0 → RA N ns0 ns (Told i j)
  b : 1 ≤ r → RB N ns fun s k => Told i j s k ∨ 2 ≤ r
structure Ph (N r : Nat) (ns : List Nd) : Prop where
  a : 1 ≤ r → Dom N ns
  b : 2 ≤ r → RB N ns fun _ _ => True
theorem mid_start {N r : Nat} {ns : List Nd} (h : Ph N r ns) : Mid N r 0 0 ns ns := by
  refine ⟨fun _ => RA.start N ns _ fun s k h => ?_, fun hr => ⟨h.a hr, fun s k hs hk ht => ?_⟩⟩
  · obtain ⟨_, h | ⟨_, h⟩⟩ := h <;> omega
  · rcases ht with ⟨_, h | ⟨_, h⟩⟩ | h2
    · omega
    · omega
    · exact (h.b h2).told s k hs hk trivial
theorem RA.weaken {N : Nat} {ns0 ns : List Nd} {T T' : Nat → Nat → Prop} (h : RA N ns0 ns T) (ht : ∀ s k, s < N → k < N → T' s k → T s k) : RA N ns0 ns T' := ⟨h.up, h.top, fun s k hs hk h' => h.told s k hs hk (ht s k hs hk h')⟩
theorem RB.weaken {N : Nat} {ns : List Nd} {T T' : Nat → Nat → Prop} (h : RB N ns T) (ht : ∀ s k, s < N → k < N → T' s k → T s k) : RB N ns T' := ⟨h.dom, fun s k hs hk h' => h.told s k hs hk (ht s k hs hk h')⟩
theorem mid_row {N r i : Nat} {ns0 ns : List Nd} (h : Mid N r i N ns0 ns) : Mid N r (i + 1) 0 ns0 ns := by
  refine ⟨fun hr => (h.a hr).weaken fun s k hs hk ⟨h1, h2⟩ => ⟨h1, ?_⟩, fun hr => (h.b hr).weaken fun s k hs hk h2 => ?_⟩
  · omega
  · rcases h2 with ⟨h1, h2⟩ | h2
    · exact .inl ⟨h1, by omega⟩
    · exact .inr h2
theorem mid_skip {N r i : Nat} {ns0 ns : List Nd} (h : Mid N r i i ns0 ns) : Mid N r i (i + 1) ns0 ns := by
  refine ⟨fun hr => (h.a hr).weaken fun s k hs hk ⟨h1, h2⟩ => ⟨h1, ?_⟩, fun hr => (h.b hr).weaken fun s k hs hk h2 => ?_⟩
  · omega
  · rcases h2 with ⟨h1, h2⟩ | h2
    · exact .inl ⟨h1, by omega⟩
    · exact .inr h2
theorem mid_tell {N r i j : Nat} {B : Int} {ns0 ns : List Nd} (hN : N ≤ 16) (hB : B < 18446744073709551000) (hm : Meet N B ns) (h : Mid N r i j ns0 ns) (hi : i < N) (hj : j < N) (hij : i ≠ j) : Mid N r i (j + 1) ns0 (tell ns i j) := by
  refine ⟨fun hr => (h.a hr).tell hN hB hm hi hj hij fun s k ⟨h1, h2⟩ => ?_, fun hr => (h.b hr).tell hN hB hm hi hj hij fun s k h2 => ?_⟩
  · by_cases hs : s = i ∧ k = j
    · exact .inr hs
    · exact .inl ⟨h1, by omega⟩
  · rcases h2 with ⟨h1, h2⟩ | h2
    · by_cases hs : s = i ∧ k = j
      · exact .inr hs
      · exact .inl (.inl ⟨h1, by omega⟩)
    · exact .inl (.inr h2)
theorem mid_end {N r : Nat} {ns0 ns : List Nd} (h : Mid N r N 0 ns0 ns) : Ph N (r + 1) ns := by
  refine ⟨fun _ => ?_, fun hr => ?_⟩
  · by_cases hr : r = 0
    · refine (h.a hr).dom fun s k hs hk => ?_
      by_cases he : s = k
      · exact .inl he
      · exact .inr ⟨he, .inl hs⟩
    · exact (h.b (by omega)).dom
  · have hb := h.b (by omega)
    refine ⟨hb.dom, fun s k hs hk _ => ?_⟩
    by_cases he : s = k
    · rw [he]
    · exact hb.told s k hs hk (.inl ⟨he, .inl hs⟩)
section
variable {w0 w : World} {R : List Asn} {N : Nat} {ps : List Nat} {ns : List Nd} {v : Value}
def bnd (r i j : Nat) : Int := 2000 + 100 * r + 10 * i + j
def InI (W : World) (N r i : Nat) (ns0 : List Nd) (ps : List Nat) (v : Value) : KL := fun x w1 => ∃ (u : Value) (j : Nat) (ns : List Nd), x = [u, .int .i64 (j : Nat)] ∧ j ≤ N ∧ Meet N (bnd r i j) ns ∧ ps.length = ns.length ∧ Mid N r i j ns0 ns ∧ St W w1 [nodesA ps ns, rowP v ps]
/-- Node i tells all. -/
theorem meetsJ20 {W : World} (hN : N ≤ 6) {r i : Nat} (hr : r < 3) (hi : i < N) {ns0 : List Nd} (hm : Meet N (bnd r i 0) ns) (hp : ps.length = ns.length) (hd : Mid N r i 0 ns0 ns) (S : St W w [nodesA ps ns, rowP v ps]) {x1 : List Value} (h1 : gv x1 4 = v) {u0 u1 : Value} {K19 : KL} {K : KV}
    (h : ∀ w' y0 y1 ns', Meet N (bnd r (i + 1) 0) ns' → ps.length = ns'.length → Mid N r (i + 1) 0 ns0 ns' → St W w' [nodesA ps ns', rowP v ps] → K19 [y0, y1, .int .i64 ((i + 1 : Nat) : Int)] w') :
    M.winnowlaw10_GossipMeets.j20 [u0, u1, .int .i64 (i : Nat)] x1 K19 w K := by
  unfold M.winnowlaw10_GossipMeets.j20
  have q1 : gv [u0, u1, .int .i64 (i : Nat)] 1 = u1 := rfl
  have q2 : gv [u0, u1, .int .i64 (i : Nat)] 2 = .int .i64 (i : Nat) := rfl
  have hwi : IntKind.i64.wrap ((i : Int) + 1) = ((i + 1 : Nat) : Int) := by rw [wrap_id (by omega) (by omega)]; rfl
  have hwu : IntKind.u64.wrap ((i + 1 : Nat) : Int) = ((i + 1 : Nat) : Int) := wrap_u64 (by omega) (by omega)
  simp only [joinT_eq, q1]
  refine ⟨InI W N r i ns0 ps v, fun x _ => N - ms x 1, ⟨_, 0, ns, rfl, Nat.zero_le _, hm, hp, hd, S⟩, ?_⟩
  clear hm hd S
  rintro x w1 ⟨u, j, ns, rfl, hj, hm, hp', hd, S⟩
  have p1 : gv [u, .int .i64 (j : Nat)] 1 = .int .i64 (j : Nat) := rfl
  have p0 : gv [u, .int .i64 (j : Nat)] 0 = u := rfl
  have hnl := hm.len
  have hpl : ps.length = N := by rw [hp', hnl]
  have hlen : ∀ K', biT P .len #[T.sl_p_gossip_Node] T.int [false] [v] w1 K' = K' (.int .i64 N) w1 := fun K' => by rw [(S.swap.row encP_len : Sl w1 1 encP v ps).len_ok (by kernel_rfl), hpl]
  unfold M.winnowlaw10_GossipMeets.j22
  simp only [joinT_eq, p1, h1, hlen]
  by_cases hjl : j < N
  · have hjl' : (j : Int) < N := by omega
    have hwj : IntKind.i64.wrap ((j : Int) + 1) = ((j + 1 : Nat) : Int) := by rw [wrap_id (by omega) (by omega)]; rfl
    have hc1 : ((i : Int) + 1) = ((i + 1 : Nat) : Int) := by omega
    have hcv : ∀ w' K', cvT P T.int T.uint64 (.int .i64 ((i : Int) + 1)) w' K' = K' (.int .u64 ((i : Int) + 1)) w' := fun w' K' => by rw [cv_ints (ks := .i64) (kd := .u64) (by kernel_rfl) (by kernel_rfl), hc1, hwu]
    have hwi' : IntKind.i64.wrap ((i : Int) + 1) = (i : Int) + 1 := by rw [hwi, ← hc1]
    simp [hjl']
    unfold M.winnowlaw10_GossipMeets.j23
    have S1 := S.step ((Fr.refl _ w1).dr 1)
    by_cases hij : i = j
    · subst hij
      simp [q2, p1, p0]
      rw [hwi]
      exact ⟨⟨_, i + 1, ns, rfl, by omega, hm.mono (by unfold bnd; omega), hp', mid_skip hd, S1⟩, by simp [ms, gv]; omega⟩
    · have hij' : ¬ (i : Int) = (j : Int) := by omega
      have hjn : j < ns.length := by omega
      have hin : i < ns.length := by omega
      obtain ⟨bi, oi, hia, hic⟩ := rowP_read2 S1.swap (j := i) (by omega)
      obtain ⟨bj, oj, hja, hjc⟩ := rowP_read2 S1.swap (j := j) (by omega)
      have hic' : cellOf w1 bi oi = some (ptrN (ps[i]'(by omega))) := hic S.swap
      have hjc' : cellOf w1 bj oj = some (ptrN (ps[j]'(by omega))) := hjc S.swap
      simp only [q2, p1, p0, h1]
      simp [hij', hia, hja, hic', hjc', hwi', hcv]
      refine view_st (nodes_at hp' hin S1) (hm.each i hin).ok fun w2 v2 S2 => ?_
      have S3 : St W w2 (nodesA ps ns :: rdM v2 ns[i].v :: [rowP v ps]) := (nodes_same hp' hin (R := [rowP v ps, rdM v2 ns[i].v]) (S2.perm (List.perm_middle (l₁ := [_, _, _]) (l₂ := [])).symm)).tail (.swap _ _ _)
      have hj2 : cellOf w2 bj oj = some (ptrN (ps[j]'(by omega))) := hjc S3.up2
      simp [hj2]
      have hmi := hm.each i hin
      have hmj := hm.each j hjn
      have hfw := hmi.ok.good.few
      rw [hc1]
      refine hear_st (l := ns[i].v) (now := 1) (frm := ((i + 1 : Nat) : Int)) (nodes_at hp' hjn S3) hmj.ok (by omega) hmi.ok.inc (fun w' L S => rd_mem S (by simp)) (by omega) fun w3 S4 => ?_
      have hB : bnd r i j < 18446744073709551000 := by unfold bnd; omega
      obtain ⟨k0, _⟩ := meet_hear (by omega) hB hmj hmi.few ((i + 1 : Nat) : Int) (now := 1) (by omega)
      rw [k0]
      have S5 := nodes_set hp' hjn S4
      have htl : tell ns i j = ns.set j (ns[j].hear ((i + 1 : Nat) : Int) ns[i].v 1).1 := by unfold tell; rw [List.getElem?_eq_getElem hjn, ndAt_eq hin]
      rw [← htl] at S5
      simp
      rw [hwj]
      have hmt := (tell_meet (by omega) hB hm hi hjl).1
      have hb1 : bnd r i j + 1 = bnd r i (j + 1) := by unfold bnd; omega
      rw [hb1] at hmt
      exact ⟨⟨_, j + 1, tell ns i j, rfl, by omega, hmt, by rw [htl, List.length_set]; exact hp', mid_tell (by omega) hB hm hd hi hjl hij, S5.swap.drop⟩, by simp [ms, gv]; omega⟩
  · have hjl' : ¬ (j : Int) < N := by omega
    have hje : j = N := by omega
    subst hje
    simp [hjl']
    simp only [q2, bin_add, hwi]
    exact h w1 _ _ ns (hm.mono (by unfold bnd; omega)) hp' (mid_row hd) S
def MdI (W : World) (N r : Nat) (ns0 : List Nd) (ps : List Nat) (v : Value) : KL := fun x w1 => ∃ (u0 u1 : Value) (i : Nat) (ns : List Nd), x = [u0, u1, .int .i64 (i : Nat)] ∧ i ≤ N ∧ Meet N (bnd r i 0) ns ∧ ps.length = ns.length ∧ Mid N r i 0 ns0 ns ∧ St W w1 [nodesA ps ns, rowP v ps]
/-- A round. -/
theorem meetsJ17 {W : World} (hN : N ≤ 6) {r : Nat} (hr : r < 3) (hm : Meet N (bnd r 0 0) ns) (hp : ps.length = ns.length) (hd : Ph N r ns) (S : St W w [nodesA ps ns, rowP v ps]) {x1 : List Value} (h1 : gv x1 4 = v) {u0 u1 u2 : Value} {K16 : KL} {K : KV}
    (h : ∀ w' y0 y1 y2 ns', Meet N (bnd (r + 1) 0 0) ns' → ps.length = ns'.length → Ph N (r + 1) ns' → St W w' [nodesA ps ns', rowP v ps] → K16 [y0, y1, y2, .int .i64 ((r + 1 : Nat) : Int)] w') :
    M.winnowlaw10_GossipMeets.j17 [u0, u1, u2, .int .i64 (r : Nat)] x1 K16 w K := by
  unfold M.winnowlaw10_GossipMeets.j17
  have q1 : gv [u0, u1, u2, .int .i64 (r : Nat)] 1 = u1 := rfl
  have q2 : gv [u0, u1, u2, .int .i64 (r : Nat)] 2 = u2 := rfl
  have q3 : gv [u0, u1, u2, .int .i64 (r : Nat)] 3 = .int .i64 (r : Nat) := rfl
  have hwi : IntKind.i64.wrap ((r : Int) + 1) = ((r + 1 : Nat) : Int) := by rw [wrap_id (by omega) (by omega)]; rfl
  simp only [joinT_eq, q1, q2]
  refine ⟨MdI W N r ns ps v, fun x _ => N - ms x 2, ⟨_, _, 0, ns, rfl, Nat.zero_le _, hm, hp, mid_start hd, S⟩, ?_⟩
  clear hm hd S
  rintro x w1 ⟨u0, u1, i, ns', rfl, hi, hm, hp', hd, S⟩
  have p2 : gv [u0, u1, .int .i64 (i : Nat)] 2 = .int .i64 (i : Nat) := rfl
  have hnl := hm.len
  have hpl : ps.length = N := by rw [hp', hnl]
  have hlen : ∀ K', biT P .len #[T.sl_p_gossip_Node] T.int [false] [v] w1 K' = K' (.int .i64 N) w1 := fun K' => by rw [(S.swap.row encP_len : Sl w1 1 encP v ps).len_ok (by kernel_rfl), hpl]
  unfold M.winnowlaw10_GossipMeets.j19
  simp only [joinT_eq, p2, h1, hlen]
  by_cases hil : i < N
  · have hil' : (i : Int) < N := by omega
    simp [hil']
    refine meetsJ20 hN hr hil hm hp' hd S h1 fun w' y0 y1 ns'' hm' hp'' hd' S' => ⟨⟨_, _, i + 1, ns'', rfl, by omega, hm', hp'', hd', S'⟩, by simp [ms, gv]; omega⟩
  · have hil' : ¬ (i : Int) < N := by omega
    have hie : i = N := by omega
    subst hie
    simp [hil']
    simp only [q3, bin_add, hwi]
    exact h w1 _ _ _ ns' (hm.mono (by unfold bnd; omega)) hp' (mid_end hd) S
def RoI (W : World) (N : Nat) (ps : List Nat) (v : Value) : KL := fun x w1 => ∃ (u0 u1 u2 : Value) (r : Nat) (ns : List Nd), x = [u0, u1, u2, .int .i64 (r : Nat)] ∧ r ≤ 3 ∧ Meet N (bnd r 0 0) ns ∧ ps.length = ns.length ∧ Ph N r ns ∧ St W w1 [nodesA ps ns, rowP v ps]
def FiI (W : World) (N : Nat) (ps : List Nat) (ns : List Nd) (v tv : Value) : KL := fun x w1 => ∃ (u0 u1 : Value) (i : Nat), x = [u0, u1, .int .i64 (i : Nat)] ∧ i ≤ N ∧ St W w1 [nodesA ps ns, rowP v ps, rdM tv (ndAt ns 0)]
/-- In the end all have one view. -/
theorem meetsJ15 {W : World} (hN : 2 ≤ N ∧ N ≤ 6) (hm : Meet N (bnd 3 0 0) ns) (hp : ps.length = ns.length) (hd : Ph N 3 ns) (S : St W w [nodesA ps ns, rowP v ps]) {x1 x15 : List Value} (h1 : gv x1 4 = v) {K : KV} (hK : ∀ w', Fr (fun _ => False) W w' → K (.bool true) w') : M.winnowlaw10_GossipMeets.j15 x1 x15 w K := by
  unfold M.winnowlaw10_GossipMeets.j15
  have hnl := hm.len
  have hpl : ps.length = N := by rw [hp, hnl]
  have hB : bnd 3 0 0 < 18446744073709551000 := by unfold bnd; omega
  have hT : ∀ s k : Nat, s < N → k < N → s = k ∨ True := fun _ _ _ _ => .inr trivial
  have hone := fun i (hi : i < N) => (hd.b (by omega)).one hB hm hT hi (show 0 < N by omega)
  obtain ⟨hall, hvl⟩ := (hd.b (by omega)).all hB hm hT (show 0 < N by omega)
  have h0 : 0 < ns.length := by omega
  obtain ⟨b0, o0, hia, hic⟩ := rowP_read2 S.swap (j := 0) (by omega)
  have hic0 := hic S.swap
  have hia0 : ∀ w' K, iaT P T.sl_p_gossip_Node v (.int .i64 0) w' K = K (.pointer (some ⟨b0, o0, none⟩)) w' := hia
  simp [h1, hia0, hic0]
  refine view_st (nodes_at hp h0 S) (hm.each 0 h0).ok fun w1 tv S1 => ?_
  have S2 : St W w1 [nodesA ps ns, rowP v ps, rdM tv (ndAt ns 0)] := by
    rw [ndAt_eq h0]
    exact nodes_same hp h0 (R := [rowP v ps, rdM tv ns[0].v]) (S1.perm (List.perm_middle (l₁ := [_, _, _]) (l₂ := [])).symm)
  refine ⟨FiI W N ps ns v tv, fun x _ => N - ms x 2, ⟨_, _, 0, rfl, Nat.zero_le _, S2⟩, ?_⟩
  clear S S1 S2
  rintro x w2 ⟨u0, u1, i, rfl, hi, S⟩
  have p2 : gv [u0, u1, .int .i64 (i : Nat)] 2 = .int .i64 (i : Nat) := rfl
  have p1 : gv [u0, u1, .int .i64 (i : Nat)] 1 = u1 := rfl
  have hlen : ∀ K', biT P .len #[T.sl_p_gossip_Node] T.int [false] [v] w2 K' = K' (.int .i64 N) w2 := fun K' => by rw [(S.swap.row encP_len : Sl w2 1 encP v ps).len_ok (by kernel_rfl), hpl]
  have hvlen : ∀ w' K', biT P .len #[T.sl_api_Member] T.int [false] [tv] w' K' = K' (.int .i64 N) w' := fun w' K' => by rw [S.up2.rd.len_ok (by kernel_rfl), hvl]
  unfold M.winnowlaw10_GossipMeets.j26
  simp only [joinT_eq, p2, h1, hlen]
  by_cases hil : i < N
  · have hil' : (i : Int) < N := by omega
    have hwi : IntKind.i64.wrap ((i : Int) + 1) = ((i + 1 : Nat) : Int) := by rw [wrap_id (by omega) (by omega)]; rfl
    have hwu : IntKind.u64.wrap ((i + 1 : Nat) : Int) = ((i + 1 : Nat) : Int) := wrap_u64 (by omega) (by omega)
    simp [hil']
    unfold M.winnowlaw10_GossipMeets.j27
    simp only [joinT_eq, p2, p1, h1, bin_add, hwi]
    rw [cv_ints (ks := .i64) (kd := .u64) (by kernel_rfl) (by kernel_rfl), hwu]
    refine refFind_ok S.up2.rd (by omega) fun w3 f3 => ?_
    obtain ⟨m, hmf, hms⟩ := hall i hil
    rw [hmf, findP_eq hmf]
    simp only [ex_2_0, ex_2_1]
    rw [show aggM m = .agg #[.int .u64 m.id, .int .u64 m.inc, .int .i64 m.st] from rfl]
    simp
    have S3 := S.step f3
    refine boxM S3 m fun w4 S4 => ?_
    generalize w3.heap.size = g at *
    have hin : i < ns.length := by omega
    obtain ⟨bi, oi, hja, hjc⟩ := rowP_read2 S4.up2 (j := i) (by omega)
    have hj4 := hjc S4.up2
    simp [hja, hj4]
    refine view_st (nodes_at hp hin S4.swap) (hm.each i hin).ok fun w5 v5 S5 => ?_
    have S6 : St W w5 [nodesA ps ns, blkA g (encM m).toArray T.api_Member, rowP v ps, rdM tv (ndAt ns 0), rdM v5 ns[i].v] :=
      nodes_same hp hin (R := [blkA g (encM m).toArray T.api_Member, rowP v ps, rdM tv (ndAt ns 0), rdM v5 ns[i].v]) (S5.perm (List.perm_middle (l₁ := [_, _, _, _, _]) (l₂ := [])).symm)
    have hone' : ns[i].v = ndAt ns 0 := by rw [← ndAt_eq hin]; exact hone i hil
    rw [hone'] at S6
    refine refSame_ok S6.up4.rd (rd_mem S6 (by simp) : SlM w5 tv (ndAt ns 0)) (by omega) fun w6 f6 => ?_
    have S7 := S6.step f6
    have c2 : cellOf w6 g 2 = some (.int .i64 0) := by rw [cellOf_of S7.swap.blk, ← hms]; rfl
    simp [c2]
    exact ⟨⟨_, _, i + 1, rfl, by omega, S7.swap.drop.up3.drop⟩, by simp [ms, gv]; omega⟩
  · have hil' : ¬ (i : Int) < N := by omega
    simp [hil']
    unfold M.winnowlaw10_GossipMeets.j25
    simp only [h1, hlen, hvlen]
    simp
    exact alive10 fun w' f' => hK w' (S.fr.trans f')
def OpI (W : World) (N : Nat) (l : List GOp) (ps : List Nat) (v : Value) : KL := fun x w1 => ∃ (u0 u1 : Value) (i : Nat) (ns : List Nd), x = [u0, u1, .int .i64 (i : Nat)] ∧ i ≤ l.length ∧ Meet N (1000 + (i : Int)) ns ∧ ps.length = ns.length ∧ St W w1 [nodesA ps ns, rowP v ps]
theorem GossipMeets_law {W : World} {n0 : Nat} {v0 : Value} (h0 : TV P W n0 T.sl_uint64 [v0]) {n1 : Nat} {v1 : Value} (h1 : TV P W n1 T.sl_winnowlaw10_Op [v1]) {K : KV}
    (h : ∀ w', Fr (fun _ => False) W w' → K (.bool true) w') : callT P F.winnowlaw10_GossipMeets [v0, v1] W K := by
  obtain ⟨incs, ha, _⟩ := u64s_of h0
  obtain ⟨l, hl⟩ := gops_of h1
  apply M.winnowlaw10_GossipMeets.calls
  unfold M.winnowlaw10_GossipMeets
  have al : ∀ {w'}, Fr (fun _ => False) W w' → ∀ {K : KV}, (∀ w'', Fr (fun _ => False) W w'' → K (.bool true) w'') → fcallT P F.winnowlaw10_alive [] w' K := fun {w'} f {K} hK => alive10 fun w'' f' => hK w'' (f.trans f')
  have la : ∀ w' K', biT P .len #[T.sl_uint64] T.int [false] [v0] w' K' = K' (.int .i64 incs.length) w' := fun w' K' => ha.len_ok (by kernel_rfl) [false]
  by_cases g1 : incs.length < 2
  · have g1' : (incs.length : Int) < 2 := by omega
    simp [la, g1']
    exact al (Fr.refl _ _) h
  have g1' : ¬ (incs.length : Int) < 2 := by omega
  by_cases g2 : 6 < incs.length
  · have g2' : (6 : Int) < incs.length := by omega
    simp [la, g1', g2']
    exact al (Fr.refl _ _) h
  have g2' : ¬ (6 : Int) < incs.length := by omega
  simp [la, g1', g2']
  refine light10 hl fun bb hbb => ?_
  cases bb with
  | false => simp; exact al (Fr.refl _ _) h
  | true =>
    obtain ⟨hfew, hmm⟩ := hbb rfl
    simp
    have S0 : St W W [nodesA [] [], rowP (.slice none 0 0) []] := nodes_nil (nilRow (St.start W))
    refine ⟨MmI W incs.length, fun x _ => incs.length - ms x 4, ⟨_, _, _, _, [], [], rfl, Nat.zero_le _, rfl, ⟨fun i hi => by simp at hi⟩, S0⟩, ?_⟩
    rintro x w1 ⟨u0, u1, u2, v, ps, ns, rfl, hi, hp, hm, S⟩
    have q4 : gv [u0, u1, u2, v, .int .i64 (ns.length : Nat)] 4 = .int .i64 (ns.length : Nat) := rfl
    have q3 : gv [u0, u1, u2, v, .int .i64 (ns.length : Nat)] 3 = v := rfl
    unfold M.winnowlaw10_GossipMeets.j2
    simp only [joinT_eq, q4, la]
    by_cases hil : ns.length < incs.length
    · have hil' : (ns.length : Int) < incs.length := by omega
      simp [hil']
      refine meetsJ3 ha (by omega) hil hp hm S h fun w' y0 y1 y2 v' ps' ns' hl' hp' hm' S' => ⟨⟨_, _, _, v', ps', ns', rfl, by omega, hp', hm', S'⟩, ?_⟩
      simp [ms, gv]; omega
    · have hil' : ¬ (ns.length : Int) < incs.length := by omega
      have hnl : ns.length = incs.length := by omega
      simp [hil']
      unfold M.winnowlaw10_GossipMeets.j1
      have p4 : gv [.int .i64 (ns.length : Nat), u0, u1, u2, gv [u0, u1, u2, v, .int .i64 (ns.length : Nat)] 3] 4 = v := rfl
      have hM0 : Meet incs.length (1000 + ((0 : Nat) : Int)) ns := ⟨hnl, fun i hi => (hm.each i hi).mono (by omega)⟩
      simp only [joinT_eq]
      refine ⟨OpI W incs.length l ps v, fun x _ => l.length - ms x 2, ⟨_, _, 0, ns, rfl, Nat.zero_le _, hM0, hp, S⟩, ?_⟩
      rintro x w2 ⟨z0, z1, i, ns2, rfl, hi2, hm2, hp2, S2⟩
      have r2 : gv [z0, z1, .int .i64 (i : Nat)] 2 = .int .i64 (i : Nat) := rfl
      unfold M.winnowlaw10_GossipMeets.j8
      simp only [joinT_eq, r2]
      rw [(gops_fr hl S2.fr).len_ok (by kernel_rfl)]
      by_cases hol : i < l.length
      · have hol' : (i : Int) < l.length := by omega
        simp [hol']
        refine meetsJ9 hl hfew hmm ha (by omega) hol hp2 hm2 S2 p4 h fun w' y0 y1 ns' hm' hp' S' => ⟨⟨_, _, i + 1, ns', rfl, by omega, hm', hp', S'⟩, by simp [ms, gv]; omega⟩
      · have hol' : ¬ (i : Int) < l.length := by omega
        simp [hol']
        have hM2 : Meet incs.length (bnd 0 0 0) ns2 := hm2.mono (by unfold bnd; omega)
        refine ⟨RoI W incs.length ps v, fun x _ => 3 - ms x 3, ⟨_, _, _, 0, ns2, rfl, by omega, hM2, hp2, ⟨fun h => by omega, fun h => by omega⟩, S2⟩, ?_⟩
        rintro x w3 ⟨y0, y1, y2, r, ns3, rfl, hr, hm3, hp3, hd3, S3⟩
        have r3 : gv [y0, y1, y2, .int .i64 (r : Nat)] 3 = .int .i64 (r : Nat) := rfl
        unfold M.winnowlaw10_GossipMeets.j16
        simp only [joinT_eq, r3]
        by_cases hrl : r < 3
        · have hrl' : (r : Int) < 3 := by omega
          simp [hrl']
          refine meetsJ17 (by omega) hrl hm3 hp3 hd3 S3 p4 fun w' x0 x1 x2 ns' hm' hp' hd' S' => ⟨⟨_, _, _, r + 1, ns', rfl, by omega, hm', hp', hd', S'⟩, by simp [ms, gv]; omega⟩
        · have hrl' : ¬ (r : Int) < 3 := by omega
          have hre : r = 3 := by omega
          subst hre
          simp
          exact meetsJ15 (by omega) hm3 hp3 hd3 S3 p4 h
end
end Go.Proofs.Ytkjhekflgghbdaa
