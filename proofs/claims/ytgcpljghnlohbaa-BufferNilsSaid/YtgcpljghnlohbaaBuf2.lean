/-
  A buffer of traces: Put. No condition.
-/
import Derived.Test.YtgcpljghnlohbaaBuf1
set_option maxRecDepth 100000
namespace Go.Proofs.Ytgcpljghnlohbaa
open Go.Eng

theorem map_ne {w : World} {r b : Nat} {k : IntKind} {m : MP} (h : MapAt w r k m) {c : Array Value} {e : TypeId} {f : Nat × Nat} (hb : w.heap[b]? = some (.cells c e f)) : r ≠ b := by
  obtain ⟨es, clk, hr, _⟩ := h
  exact fun he => by rw [he, hb] at hr; cases hr
theorem row_elem {w : World} {base : Nat} {v : Value} {l : List Spn} (h : OwS w base v l) {x : Nat} (hx : v.ownBlock = some x) : ∃ cur, w.heap[x]? = some (.cells cur T.api_Span (0, 0)) := by
  obtain ⟨cap, cur, _, _, hb, _⟩ := row_at h hx
  exact ⟨cur, hb⟩

/-- One entry has turned. -/
theorem BufI.upd {w w' : World} {hb : Nat} {g : Cfg} {O : Nat → Prop} {r : Nat} {m : MP} {es : List Ent} {c : CT} (I : BufI w hb g O r m es c) {e e' : Ent} (he : e ∈ es) (ht : e'.t = e.t) (hp : e'.p = e.p) {S : Nat → Prop} (hf : Fr S w w') (hS : ∀ b, S b → b = e.p ∨ e.v.ownBlock = some b)
    (hbk : w'.heap[e.p]? = some (.cells #[e'.v, .bool e'.over] T.buffer_entry (0, 0))) (ho : OwS w' 0 e'.v e'.l) (hn : ∀ x, e'.v.ownBlock = some x → e.v.ownBlock = some x ∨ w.heap.size ≤ x) : BufI w' hb g O r m (es.map fun x => if x.t = e.t then e' else x) c := by
  have inj : ∀ x ∈ es, x.t = e.t → x = e := fun x hx h => nodup_map_inj I.tn hx he h
  have hts : (es.map fun x => if x.t = e.t then e' else x).map Ent.t = es.map Ent.t := by
    rw [List.map_map]
    refine List.map_congr_left fun x hx => ?_
    show (if x.t = e.t then e' else x).t = x.t
    split
    · rename_i h; rw [ht, h]
    · rfl
  have hps : (es.map fun x => if x.t = e.t then e' else x).map Ent.p = es.map Ent.p := by
    rw [List.map_map]
    refine List.map_congr_left fun x hx => ?_
    show (if x.t = e.t then e' else x).p = x.p
    split
    · rename_i h; rw [hp, inj x hx h]
    · rfl
  have hmem : ∀ y ∈ (es.map fun x => if x.t = e.t then e' else x), y = e' ∨ (y ∈ es ∧ y.t ≠ e.t) := fun y hy => by
    obtain ⟨x, hx, rfl⟩ := List.mem_map.1 hy
    split
    · exact .inl rfl
    · rename_i h; exact .inr ⟨hx, h⟩
  have nS : ∀ x ∈ es, x.t ≠ e.t → ¬ S x.p ∧ ∀ b, x.v.ownBlock = some b → ¬ S b := fun x hx hne => by
    refine ⟨fun h => ?_, fun b hxb h => ?_⟩
    · rcases hS _ h with h | h
      · exact hne (by rw [nodup_map_inj I.pn hx he h])
      · obtain ⟨cur, hc⟩ := row_elem (I.row e he) h
        exact ne_of_elem hc (I.blk x hx) (by decide) rfl
    · rcases hS _ h with h | h
      · obtain ⟨cur, hc⟩ := row_elem (I.row x hx) hxb
        rw [h] at hc
        exact ne_of_elem hc (I.blk e he) (by decide) rfl
      · exact hne (I.rn x hx e he b hxb h)
  refine ⟨@Hp.keep (bufE g r) _ _ _ _ _ _ I.hp hf fun b hb h => ?_, I.mp.of_heap (hf.keep r I.mp.lt fun h => ?_), I.mn, by rw [List.length_map]; exact I.ml, fun y hy => ?_, fun k hk => I.mz k fun x hx => ?_, by rw [hts]; exact I.tn, by rw [hps]; exact I.pn, fun y hy => ?_, fun y hy => ?_, fun y hy y' hy' x h h' => ?_, I.nr, fun y hy => ?_, fun y hy x hx => ?_, by rw [hts]; exact I.ck⟩
  · rcases hS b h with h | h
    · exact I.np e he (h ▸ hb)
    · exact I.nv e he b h hb
  · rcases hS r h with h | h
    · exact map_ne I.mp (I.blk e he) h
    · obtain ⟨cur, hc⟩ := row_elem (I.row e he) h
      exact map_ne I.mp hc rfl
  · rcases hmem y hy with rfl | ⟨hy, hne⟩
    · have : y.ptr = e.ptr := by unfold Ent.ptr; rw [hp]
      rw [ht, this]; exact I.mg e he
    · exact I.mg y hy
  · have : (if x.t = e.t then e' else x) ∈ (es.map fun x => if x.t = e.t then e' else x) := List.mem_map_of_mem hx
    have h := hk _ this
    split at h
    · rename_i h2; rw [ht] at h; rw [h2]; exact h
    · exact h
  · rcases hmem y hy with rfl | ⟨hy, hne⟩
    · rw [hp]; exact hbk
    · exact hf.heap (I.blk y hy) (nS y hy hne).1
  · rcases hmem y hy with rfl | ⟨hy, hne⟩
    · exact ho
    · exact (I.row y hy).fr hf (nS y hy hne).2
  · rcases hmem y hy with h1 | ⟨h1, hne⟩ <;> rcases hmem y' hy' with h2 | ⟨h2, hne'⟩
    · rw [h1, h2]
    · rw [h1, ht]
      rw [h1] at h
      rcases hn x h with h | h
      · exact (I.rn e he y' h2 x h h')
      · have := ((I.row y' h2).lt h').2; omega
    · rw [h2, ht]
      rw [h2] at h'
      rcases hn x h' with h' | h'
      · exact (I.rn y h1 e he x h h')
      · have := ((I.row y h1).lt h).2; omega
    · exact I.rn y h1 y' h2 x h h'
  · rcases hmem y hy with rfl | ⟨hy, hne⟩
    · rw [hp]; exact I.np e he
    · exact I.np y hy
  · rcases hmem y hy with rfl | ⟨hy, hne⟩
    · rcases hn x hx with h | h
      · exact I.nv e he x h
      · intro hO; have := @Hp.lt (bufE g r) _ _ _ _ I.hp x hO; omega
    · exact I.nv y hy x hx

theorem bs_agg (s : Spn) (w : World) (K : KV) : bsT P T.sl_api_Span 1 #[(0, aggS s)] w K = K (.slice (some ⟨w.heap.size, 0, none⟩) 1 1) (w.alloc (.cells #[.int .u64 s.trace, .int .u64 s.id, .int .u64 s.parent, .int .u64 s.start, .int .u64 s.len, .string s.service, .string s.name, .bool s.fail] T.api_Span)) := by
  unfold aggS; simp
/-- The last part of Put: the span is appended. -/
theorem put_end {w : World} {hb : Nat} {g : Cfg} {O : Nat → Prop} {r : Nat} {m : MP} {es : List Ent} {c : CT} (I : BufI w hb g O r m es c) {e : Ent} (he : e ∈ es) (hlen : e.l.length ≤ 1000) {sb : Nat} {s : Spn} (hbx : boxS w sb s) {x2 : List Value} (h3 : gv x2 3 = e.ptr) {K : KV}
    (h : ∀ w' v', BufI w' hb g O r m (es.map fun x => if x.t = e.t then { e with v := v', l := e.l ++ [s] } else x) c → Fr (fun b => b = e.p ∨ e.v.ownBlock = some b) w w' → (∀ x, v'.ownBlock = some x → e.v.ownBlock = some x ∨ w.heap.size ≤ x) → K (.int .i64 0) w') : M.pbuffer_Buffer_Put.j2 x2 (.pointer (some ⟨sb, 0, none⟩)) w K := by
  unfold M.pbuffer_Buffer_Put.j2
  have e1 : e.ptr = .pointer (some ⟨e.p, 0, none⟩) := rfl
  have hbk := I.blk e he
  obtain ⟨c0, c1⟩ := cells2 hbk
  simp only [drawT_eq, h3, e1, quietT_eq]
  have hS := boxS_at hbx
  have hld : ∀ (n : Nat) (K : KV), ldN P 8 sb 0 (dr w n) K = K (aggS s) (dr w n) := fun n K => ldS (fun k v hk => by rw [Nat.zero_add]; exact hS k v hk) K
  simp [c0, hld]
  rw [bs_agg]
  generalize hwa : (dr w 1).alloc (.cells #[.int .u64 s.trace, .int .u64 s.id, .int .u64 s.parent, .int .u64 s.start, .int .u64 s.len, .string s.service, .string s.name, .bool s.fail] T.api_Span) = wa
  have hfa : Fr (fun _ => False) w wa := by rw [← hwa]; exact ((Fr.refl _ w).dr 1).alloc _
  have hlit : SlS wa (.slice (some ⟨w.heap.size, 0, none⟩) 1 1) [s] := by
    have := Sl.one (w := dr w 1) (w' := wa) (x := s) (enc := encS) (sz := 8) hwa.symm rfl
    exact this
  have hbka := hfa.heap hbk fun h => h
  obtain ⟨d0, d1⟩ := cells2 hbka
  have hld1 : ∀ K, ld1 P e.p 0 wa K = K e.v wa := fun K => ld1_eq d0 K
  rw [hld1]
  refine ⟨⟨rfl, rfl⟩, ?_⟩
  have hsz := hfa.size
  refine app_sl et.sl_api_Span encS_len encS_one ((I.row e he).fr hfa fun _ _ h => h) hlit (by simp; omega) (by decide) (Nat.zero_le _) _ fun v3 w3 o3 f3 g3 => ?_
  have hep : ∀ x, e.v.ownBlock = some x → e.p ≠ x := fun x hx hpx => by
    obtain ⟨cur, hc⟩ := row_elem (I.row e he) hx
    rw [← hpx] at hc
    exact ne_of_elem hc hbk (by decide) rfl
  have hbk3 := f3.heap hbka fun h => hep _ h rfl
  have f13 : Fr (fun b => b = e.p ∨ e.v.ownBlock = some b) w w3 := (hfa.mono fun _ _ h => h.elim).trans' f3 fun b _ h => .inr h
  have hn3 : ∀ x, v3.ownBlock = some x → e.v.ownBlock = some x ∨ w.heap.size ≤ x := fun x hx => by
    rcases g3 with g3 | ⟨y, e1, e2⟩
    · rw [hx] at g3; exact .inl g3.symm
    · rw [hx] at e1; cases e1; exact .inr (by omega)
  obtain ⟨a3, cap3, hv3, _⟩ := o3.len
  have k0 : (cellOf w3 e.p 0).isSome = true := by rw [cellOf_of hbk3]; rfl
  have kf := frzOf_of hbk3 0
  have hst : ∀ K1 : KV, K1 undef (w3.setCell ⟨e.p, 0, none⟩ v3) → stT P T.sl_api_Span (.pointer (some ⟨e.p, 0, none⟩)) v3 w3 K1 := fun K1 hk => by
    subst hv3
    simpa [k0, kf] using hk
  refine hst _ (h _ v3 (I.upd he (e' := { e with v := v3, l := e.l ++ [s] }) rfl rfl (f13.setCell (.inl (.inl rfl)) 0 v3) (fun b h => h) ?_ ?_ hn3) (f13.setCell (.inl (.inl rfl)) 0 v3) hn3)
  · rw [setCell_at hbk3]; rfl
  · refine o3.keep fun x hx => ?_
    rw [setCell_ne]
    intro hpx
    obtain ⟨_, cur, _, _, hc, _⟩ := row_at o3 hx
    rw [← hpx] at hc
    exact ne_of_elem hc hbk3 (by decide) rfl

/-- A buffer's entry of a trace. -/
theorem BufI.find {w : World} {hb : Nat} {g : Cfg} {O : Nat → Prop} {r : Nat} {m : MP} {es : List Ent} {c : CT} (I : BufI w hb g O r m es c) (k : Int) : (mget m k = none ∧ ∀ e ∈ es, e.t ≠ k) ∨ ∃ e ∈ es, e.t = k ∧ mget m k = some e.ptr := by
  by_cases h : ∃ e ∈ es, e.t = k
  · obtain ⟨e, he, rfl⟩ := h
    exact .inr ⟨e, he, rfl, I.mg e he⟩
  · have : ∀ e ∈ es, e.t ≠ k := fun e he hk => h ⟨e, he, hk⟩
    exact .inl ⟨I.mz k this, this⟩

/-- A new trace, of which there is nothing yet. -/
theorem BufI.push {w w' : World} {hb : Nat} {g : Cfg} {O O' : Nat → Prop} {r : Nat} {m m' : MP} {es : List Ent} {c : CT} (I : BufI w hb g O r m es c) {k a : Int} {p : Nat} (hk : ∀ e ∈ es, e.t ≠ k) (hH : HpB g r w' hb O' (cset c k a)) (hO : ∀ b, O' b → O b ∨ w.heap.size < b) (hp : p = w.heap.size)
    (hm : MapAt w' r .u64 m') (hme : m' = mset m k (.pointer (some ⟨p, 0, none⟩))) {S : Nat → Prop} (hf : Fr S w w') (hS : ∀ b, S b → O b ∨ b = r) (hbk : w'.heap[p]? = some (.cells #[.slice none 0 0, .bool false] T.buffer_entry (0, 0))) : BufI w' hb g O' r m' (es ++ [⟨k, p, .slice none 0 0, [], false⟩]) (cset c k a) := by
  have hgn : mget m k = none := I.mz k hk
  have hkn : k ∉ mkeys m := (mget_none_iff _ _).1 hgn
  have hkeys : mkeys m' = mkeys m ++ [k] := by rw [hme, mkeys_mset, if_neg hkn]
  have hget : ∀ y, mget m' y = if k = y then some (.pointer (some ⟨p, 0, none⟩)) else mget m y := fun y => by rw [hme, mget_mset]
  have nSp : ∀ e ∈ es, ¬ S e.p := fun e he h => by
    rcases hS _ h with h | h
    · exact I.np e he h
    · exact map_ne I.mp (I.blk e he) h.symm
  have nSv : ∀ e ∈ es, ∀ x, e.v.ownBlock = some x → ¬ S x := fun e he x hx h => by
    rcases hS _ h with h | h
    · exact I.nv e he x hx h
    · obtain ⟨cur, hc⟩ := row_elem (I.row e he) hx
      exact map_ne I.mp hc h.symm
  have ltp : ∀ e ∈ es, e.p < w.heap.size := fun e he => heap_lt (I.blk e he)
  have hmem : ∀ y ∈ es ++ [(⟨k, p, .slice none 0 0, [], false⟩ : Ent)], y ∈ es ∨ y = ⟨k, p, .slice none 0 0, [], false⟩ := fun y hy => by
    rcases List.mem_append.1 hy with h | h
    · exact .inl h
    · exact .inr (by simpa using h)
  refine ⟨hH, hm, by rw [hkeys, List.nodup_append]; exact ⟨I.mn, by simp, fun x hx y hy hxy => by simp at hy; subst hy; exact hkn (hxy ▸ hx)⟩, ?_, fun y hy => ?_, fun y hy => ?_, ?_, ?_, fun y hy => ?_, fun y hy => ?_, fun y hy y' hy' x h h' => ?_, fun h => ?_, fun y hy h => ?_, fun y hy x hx h => ?_, ?_⟩
  · have h1 : (mkeys m').length = m'.length := by simp [mkeys]
    have h2 : (mkeys m).length = m.length := by simp [mkeys]
    rw [← h1, hkeys, List.length_append, h2, I.ml, List.length_append]; rfl
  · rw [hget]
    rcases hmem y hy with h | rfl
    · rw [if_neg fun he => hk y h he.symm]; exact I.mg y h
    · rw [if_pos rfl]; rfl
  · rw [hget]
    rw [if_neg fun he => hy ⟨k, p, .slice none 0 0, [], false⟩ (by simp) he]
    exact I.mz y fun e he => hy e (by simp [he])
  · rw [List.map_append, List.nodup_append]
    refine ⟨I.tn, by simp, fun x hx y hy hxy => ?_⟩
    obtain ⟨e, he, rfl⟩ := List.mem_map.1 hx
    simp at hy; subst hy
    exact hk e he hxy
  · rw [List.map_append, List.nodup_append]
    refine ⟨I.pn, by simp, fun x hx y hy hxy => ?_⟩
    obtain ⟨e, he, rfl⟩ := List.mem_map.1 hx
    simp at hy; subst hy
    have := ltp e he; omega
  · rcases hmem y hy with h | rfl
    · exact hf.heap (I.blk y h) (nSp y h)
    · exact hbk
  · rcases hmem y hy with h | rfl
    · exact (I.row y h).fr hf (nSv y h)
    · exact Ow.none
  · rcases hmem y hy with h1 | rfl <;> rcases hmem y' hy' with h2 | rfl
    · exact I.rn y h1 y' h2 x h h'
    · simp [Value.ownBlock] at h'
    · simp [Value.ownBlock] at h
    · rfl
  · rcases hO r h with h | h
    · exact I.nr h
    · have := I.mp.lt; omega
  · rcases hmem y hy with h1 | rfl
    · rcases hO _ h with h | h
      · exact I.np y h1 h
      · have := ltp y h1; omega
    · rcases hO _ h with h | h
      · have := @Hp.lt (bufE g r) _ _ _ _ I.hp _ h; simp at this; omega
      · simp at h; omega
  · rcases hmem y hy with h1 | rfl
    · rcases hO _ h with h | h
      · exact I.nv y h1 x hx h
      · have := ((I.row y h1).lt hx).2; omega
    · simp [Value.ownBlock] at hx
  · have hkc : k ∉ ckeys c := fun h => by
      obtain ⟨e, he, h2⟩ := List.mem_map.1 (I.ck.mem_iff.1 h)
      exact hk e he h2
    have : cset c k a = (k, a) :: c := by unfold cset; rw [cdel_none hkc]
    rw [this, List.map_append]
    show (k :: ckeys c).Perm (es.map Ent.t ++ [k])
    exact (I.ck.cons k).trans (List.perm_append_comm (l₁ := [k]))
end Go.Proofs.Ytgcpljghnlohbaa
