/-
  The Heap of timers: Pop; and what a nil one says. No condition.
-/
import Derived.Test.YtgcpljghnlohbaaTim4
set_option maxRecDepth 100000
namespace Go.Proofs.Ytgcpljghnlohbaa
open Go.Eng
variable [HE]

def slLen : Value → Nat
  | .slice _ n _ => n
  | _ => 0
def u64s (l : List Int) : List Value := l.map (Value.int .u64)

def PopI (w : World) (hb : Nat) (O : Nat → Prop) (c : CT) (now : Int) : KL := fun x w1 => ∃ (out : List Int) (c1 : CT) (v : Value), x = [gv x 0, gv x 1, gv x 2, v] ∧ Hp w1 hb O c1 ∧ w1.ownsRow w.heap.size T.uint64 1 v out.length (u64s out) ∧
  out ++ cdue c1 now = cdue c now ∧ (crest c1 now).Perm (crest c now) ∧ out.length + c1.length = c.length ∧ Fr O w w1

omit [HE] in
theorem slLen_own {w : World} {base e n : Nat} {v : Value} {xs : List Value} (h : w.ownsRow base e 1 v n xs) : slLen v = n := by
  rcases h.2 with ⟨rfl, rfl⟩ | ⟨g, cap, cur, rfl, _⟩ <;> rfl

theorem pop_ok {w : World} {hb : Nat} {O : Nat → Prop} {c : CT} (H : Hp w hb O c) (hlen : c.length < 1000000) (now : Int) {K : KV}
    (h : ∀ w' v, Hp w' hb O (crest c now) → w'.ownsRow w.heap.size T.uint64 1 v (cdue c now).length (u64s (cdue c now)) → Fr O w w' → K v w') : callT P F.ptimers_Heap_Pop [ptrH hb, .int .u64 now] w K := by
  apply M.ptimers_Heap_Pop.calls
  unfold M.ptimers_Heap_Pop
  refine ⟨PopI w hb O c now, fun x _ => c.length - slLen (gv x 3), ⟨[], c, .slice none 0 0, rfl, H, World.ownsRow_nil _ _ _ _, rfl, List.Perm.refl _, by simp, Fr.refl _ _⟩, ?_⟩
  rintro x w1 ⟨out, c1, v, hx, H1, hr1, hd1, hc1, hl1, hf1⟩
  rw [hx]
  have hsl := slLen_own hr1
  unfold M.ptimers_Heap_Pop.j0
  rw [M.ptimers_Heap_Next.fcall]
  have stop : ∀ w2, Hp w2 hb O c1 → Fr O w w2 → w2.ownsRow w.heap.size T.uint64 1 v out.length (u64s out) → (∀ q ∈ c1, now < q.2) → K v w2 := fun w2 H2 hf2 hr2 hall => by
    rw [cdue_none hall, List.append_nil] at hd1
    rw [crest_all hall] at hc1
    refine h w2 v (H2.congr hc1) ?_ hf2
    rw [← hd1]; exact hr2
  refine next_ok H1 (by omega) (fun h0 => ?_) fun k a hka hmin => ?_
  · simp
    exact stop w1 H1 hf1 hr1 (by rw [h0]; intro q hq; cases hq)
  · have H1' : Hp (dr w1 1) hb O c1 := H1.keep ((Fr.refl (fun _ => False) w1).dr 1) fun _ _ h => h
    have hr1' : (dr w1 1).ownsRow w.heap.size T.uint64 1 v out.length (u64s out) := row_keep hr1 fun _ _ => rfl
    by_cases hna : now < a
    · simp [hna]
      refine stop _ H1' (hf1.dr 1) hr1' fun q hq => ?_
      have := hmin q hq
      simp only [leP, Bool.or_eq_true, Bool.and_eq_true, decide_eq_true_eq] at this
      omega
    · simp [hna]
      have hs1 := hf1.size
      have hal := hr1'.alloc (.cells #[.int .u64 k] T.uint64)
      have hv : v.ownBlock = none ∨ ∃ g, v.ownBlock = some g ∧ w.heap.size ≤ g := by
        cases hg : v.ownBlock with
        | none => exact .inl rfl
        | some g =>
          obtain ⟨cap, cur, _, hge, _⟩ := row_at hr1 hg
          exact .inr ⟨g, rfl, hge⟩
      refine app_own (P := P) et.sl_uint64 hal (b := w1.heap.size) (o := 0) (m := 1) (c := 1) (news := [.int .u64 k]) rfl ?_ ?_ (by omega) (by omega) (by rw [alloc_size]; show w.heap.size ≤ w1.heap.size + 1; omega) _ _ ?_
      · intro j u hj
        cases j with
        | zero => simp at hj; subst hj; exact (cellOf_new (w := dr w1 1) (n := w1.heap.size) rfl (0 + 0)).trans rfl
        | succ j => simp at hj
      · intro u hu; simp at hu; subst hu; rfl
      · intro v2 w2 hr2 hgr _ _
        have hf12 : Fr (fun b => w.heap.size ≤ b) w1 w2 := (((Fr.refl (fun b => w.heap.size ≤ b) w1).dr 1).alloc _).trans' (Fr.grown hgr) fun b _ hb' => by
          rcases hv with hv | ⟨g, hv, hge⟩
          · rw [hv] at hb'; cases hb'
          · rw [hv] at hb'; cases hb'; exact hge
        have H2 : Hp w2 hb O c1 := H1.keep hf12 fun b hb' hge => by have := H.lt b hb'; omega
        rw [M.ptimers_Heap_Del.fcall]
        have hget : cget c1 k = some a := cget_of_mem H1.nd hka
        have hperm : ((k, a) :: cdel c1 k).Perm c1 := by
          obtain ⟨i, hi⟩ := List.mem_iff_getElem?.1 hka
          have h1 := set_perm H1.nd (b := a) hi
          have h2 : c1.set i (k, a) = c1 := by
            refine List.ext_getElem? fun j => ?_
            rw [List.getElem?_set]
            split
            · rename_i hij; subst hij
              rw [if_pos (List.getElem?_eq_some_iff.1 hi).1, hi]
            · rfl
          rw [h2] at h1
          exact h1.symm
        have hmin' : ∀ q ∈ cdel c1 k, leP (k, a) q = true := fun q hq => hmin q ((List.mem_filter.1 hq).1)
        refine del_some H2 (by omega) k a hget fun w3 H3 hf3 => ?_
        refine ⟨⟨out ++ [k], cdel c1 k, v2, rfl, H3, ?_, ?_, ?_, ?_, ?_⟩, ?_⟩
        · have e1 : u64s (out ++ [k]) = u64s out ++ [.int .u64 k] := by simp [u64s]
          rw [e1, List.length_append]
          refine row_keep hr2 fun g hg => ?_
          obtain ⟨cap, cur, _, hge, hgb, _⟩ := row_at hr2 hg
          exact hf3.keep g (heap_lt hgb) fun hO => by have := H.lt g hO; omega
        · rw [List.append_assoc, ← hd1, cdue_step hperm hmin' (by omega)]; rfl
        · exact (crest_step (now := now) hperm (by omega)).trans hc1
        · have := hperm.length_eq
          simp at this ⊢; omega
        · exact (hf1.trans' (hf12.mono (S' := fun b => w.heap.size ≤ b) fun _ _ h => h) fun b hlt hge => by omega).trans' hf3 fun b _ hb' => hb'
        · have h3 : slLen v2 = out.length + 1 := slLen_own hr2
          have := hperm.length_eq
          simp [gv, hsl, h3] at this ⊢
          omega

/-! ### A nil one -/
omit [HE] in
theorem nil_set {w : World} (k a : Int) {K : KV} (h : K (.tuple #[]) w) : callT P F.ptimers_Heap_Set [.pointer none, .int .u64 k, .int .u64 a] w K := by
  apply M.ptimers_Heap_Set.calls; unfold M.ptimers_Heap_Set; simp; exact h
omit [HE] in
theorem nil_del {w : World} (k : Int) {K : KV} (h : K (.bool false) w) : callT P F.ptimers_Heap_Del [.pointer none, .int .u64 k] w K := by
  apply M.ptimers_Heap_Del.calls; unfold M.ptimers_Heap_Del; simp; exact h
omit [HE] in
theorem nil_at {w : World} (k : Int) {K : KV} (h : K (.tuple #[.int .u64 0, .bool false]) w) : callT P F.ptimers_Heap_At [.pointer none, .int .u64 k] w K := by
  apply M.ptimers_Heap_At.calls; unfold M.ptimers_Heap_At; simp; exact h
omit [HE] in
theorem nil_len {w : World} {K : KV} (h : K (.int .i64 0) w) : callT P F.ptimers_Heap_Len [.pointer none] w K := by
  apply M.ptimers_Heap_Len.calls; unfold M.ptimers_Heap_Len; simp; exact h
omit [HE] in
theorem nil_next {w : World} {K : KV} (h : K (.tuple #[.int .u64 0, .int .u64 0, .bool false]) w) : callT P F.ptimers_Heap_Next [.pointer none] w K := by
  apply M.ptimers_Heap_Next.calls; unfold M.ptimers_Heap_Next; simp only [joinT_eq]; rw [M.ptimers_Heap_Len.fcall]; refine nil_len ?_; simp; exact h
omit [HE] in
theorem nil_pop {w : World} (now : Int) {K : KV} (h : K (.slice none 0 0) w) : callT P F.ptimers_Heap_Pop [.pointer none, .int .u64 now] w K := by
  apply M.ptimers_Heap_Pop.calls
  unfold M.ptimers_Heap_Pop
  refine ⟨fun x w1 => x = [undef, undef, undef, .slice none 0 0] ∧ w1 = w, fun _ _ => 0, ⟨rfl, rfl⟩, ?_⟩
  rintro x w1 ⟨rfl, rfl⟩
  unfold M.ptimers_Heap_Pop.j0
  rw [M.ptimers_Heap_Next.fcall]
  refine nil_next ?_
  simp
  exact h
end Go.Proofs.Ytgcpljghnlohbaa
