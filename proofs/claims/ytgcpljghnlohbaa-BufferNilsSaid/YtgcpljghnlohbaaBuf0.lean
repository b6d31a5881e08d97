/-
  A buffer of traces: what it is in memory. No condition.
-/
import Derived.Test.YtgcpljghnlohbaaTim5
import Derived.Test.YtgcpljghnlohbaaSpn1
set_option maxRecDepth 100000
namespace Go.Proofs.Ytgcpljghnlohbaa
open Go.Eng

structure Cfg where
  traces : Nat
  spans : Nat
  wait : Int
/-- What a buffer has of a trace. -/
structure AE where
  t : Int
  l : List Spn
  over : Bool
/-- .. and where. -/
structure Ent where
  t : Int
  p : Nat
  v : Value
  l : List Spn
  over : Bool
def Ent.abs (e : Ent) : AE := ⟨e.t, e.l, e.over⟩
def Ent.ptr (e : Ent) : Value := .pointer (some ⟨e.p, 0, none⟩)
abbrev OwS (w : World) (base : Nat) (v : Value) (l : List Spn) : Prop := Ow w base T.api_Span 8 encS v l
abbrev SlS (w : World) (v : Value) (l : List Spn) : Prop := Sl w 8 encS v l

@[reducible] def bufE (g : Cfg) (r : Nat) : HE := ⟨T.buffer_Buffer, [.int .i64 g.traces, .int .i64 g.spans, .int .u64 g.wait, .map (some r)], by decide, by decide⟩
abbrev HpB (g : Cfg) (r : Nat) (w : World) (hb : Nat) (O : Nat → Prop) (c : CT) : Prop := @Hp (bufE g r) w hb O c

structure BufI (w : World) (hb : Nat) (g : Cfg) (O : Nat → Prop) (r : Nat) (m : MP) (es : List Ent) (c : CT) : Prop where
  hp : HpB g r w hb O c
  mp : MapAt w r .u64 m
  mn : (mkeys m).Nodup
  ml : m.length = es.length
  mg : ∀ e ∈ es, mget m e.t = some e.ptr
  mz : ∀ k, (∀ e ∈ es, e.t ≠ k) → mget m k = none
  tn : (es.map Ent.t).Nodup
  pn : (es.map Ent.p).Nodup
  blk : ∀ e ∈ es, w.heap[e.p]? = some (.cells #[e.v, .bool e.over] T.buffer_entry (0, 0))
  row : ∀ e ∈ es, OwS w 0 e.v e.l
  rn : ∀ e ∈ es, ∀ e' ∈ es, ∀ x, e.v.ownBlock = some x → e'.v.ownBlock = some x → e.t = e'.t
  nr : ¬ O r
  np : ∀ e ∈ es, ¬ O e.p
  nv : ∀ e ∈ es, ∀ x, e.v.ownBlock = some x → ¬ O x
  ck : (ckeys c).Perm (es.map Ent.t)

/-- The blocks of a buffer. -/
def fpB (O : Nat → Prop) (r : Nat) (es : List Ent) (b : Nat) : Prop := O b ∨ b = r ∨ ∃ e ∈ es, e.p = b ∨ e.v.ownBlock = some b

/-- A buffer at block hb, whose memory lies in B: what it has, and when each trace is due. -/
structure Buf (w : World) (hb : Nat) (g : Cfg) (B : Nat → Prop) (A : List AE) (c : CT) : Prop where
  ex : ∃ O r m es, A = es.map Ent.abs ∧ BufI w hb g O r m es c ∧ ∀ b, fpB O r es b → B b
  lt : ∀ b, B b → b < w.heap.size

theorem BufI.lt {w : World} {hb : Nat} {g : Cfg} {O : Nat → Prop} {r : Nat} {m : MP} {es : List Ent} {c : CT} (I : BufI w hb g O r m es c) {b : Nat} (h : fpB O r es b) : b < w.heap.size := by
  rcases h with h | rfl | ⟨e, he, rfl | h⟩
  · exact @Hp.lt (bufE g r) _ _ _ _ I.hp b h
  · exact I.mp.lt
  · exact heap_lt (I.blk e he)
  · exact ((I.row e he).lt h).2

theorem BufI.keep {w w' : World} {hb : Nat} {g : Cfg} {O : Nat → Prop} {r : Nat} {m : MP} {es : List Ent} {c : CT} {S : Nat → Prop} (I : BufI w hb g O r m es c) (hf : Fr S w w') (hd : ∀ b, fpB O r es b → ¬ S b) : BufI w' hb g O r m es c :=
  { I with
    hp := @Hp.keep (bufE g r) _ _ _ _ _ _ I.hp hf fun b hb => hd b (.inl hb)
    mp := I.mp.of_heap (hf.keep r I.mp.lt (hd r (.inr (.inl rfl))))
    blk := fun e he => hf.heap (I.blk e he) (hd _ (.inr (.inr ⟨e, he, .inl rfl⟩)))
    row := fun e he => (I.row e he).fr hf fun x hx => hd x (.inr (.inr ⟨e, he, .inr hx⟩)) }

theorem Buf.keep {w w' : World} {hb : Nat} {g : Cfg} {B : Nat → Prop} {A : List AE} {c : CT} {S : Nat → Prop} (I : Buf w hb g B A c) (hf : Fr S w w') (hd : ∀ b, B b → ¬ S b) : Buf w' hb g B A c := by
  obtain ⟨⟨O, r, m, es, hA, I1, hB⟩, lt⟩ := I
  exact ⟨⟨O, r, m, es, hA, I1.keep hf fun b hb => hd b (hB b hb), hB⟩, fun b hb => Nat.lt_of_lt_of_le (lt b hb) hf.size⟩

/-- The heap of a buffer has turned. -/
theorem BufI.heap {w w' : World} {hb : Nat} {g : Cfg} {O O' : Nat → Prop} {r : Nat} {m : MP} {es : List Ent} {c c' : CT} (I : BufI w hb g O r m es c) (hf : Fr O w w') (H : HpB g r w' hb O' c') (hO : ∀ b, O' b → O b ∨ w.heap.size ≤ b) (hk : (ckeys c').Perm (es.map Ent.t)) : BufI w' hb g O' r m es c' :=
  { I with
    hp := H
    mp := I.mp.of_heap (hf.keep r I.mp.lt I.nr)
    blk := fun e he => hf.heap (I.blk e he) (I.np e he)
    row := fun e he => (I.row e he).fr hf fun x hx => I.nv e he x hx
    nr := fun h => (hO r h).elim I.nr fun h => by have := I.mp.lt; omega
    np := fun e he h => (hO _ h).elim (I.np e he) fun h => by have := heap_lt (I.blk e he); omega
    nv := fun e he x hx h => (hO _ h).elim (I.nv e he x hx) fun h => by have := ((I.row e he).lt hx).2; omega
    ck := hk }

/-- The fields of a buffer. -/
theorem BufI.cells {w : World} {hb : Nat} {g : Cfg} {O : Nat → Prop} {r : Nat} {m : MP} {es : List Ent} {c : CT} (I : BufI w hb g O r m es c) :
    cellOf w hb 2 = some (.int .i64 g.traces) ∧ cellOf w hb 3 = some (.int .i64 g.spans) ∧ cellOf w hb 4 = some (.int .u64 g.wait) ∧ cellOf w hb 5 = some (.map (some r)) := by
  letI : HE := bufE g r
  obtain ⟨v, mv, its, hI, _⟩ := Hp.ex I.hp
  have hb' := hI.hl.blk
  unfold hbk at hb'
  exact ⟨by rw [cellOf_of hb']; rfl, by rw [cellOf_of hb']; rfl, by rw [cellOf_of hb']; rfl, by rw [cellOf_of hb']; rfl⟩
theorem BufI.ohb {w : World} {hb : Nat} {g : Cfg} {O : Nat → Prop} {r : Nat} {m : MP} {es : List Ent} {c : CT} (I : BufI w hb g O r m es c) : O hb := by
  obtain ⟨v, mv, its, _, _, h, _⟩ := @Hp.ex (bufE g r) _ _ _ _ I.hp
  exact h

/-! ### New -/
theorem new_ok {w : World} (traces spans wait : Int) {K : KV} (h0 : (traces < 1 ∨ 64 < traces ∨ spans < 1 ∨ 16 < spans ∨ 1099511627776 < wait) → K (.tuple #[.pointer none, .int .i64 1]) w)
    (h1 : ∀ (g : Cfg) w', traces = g.traces → spans = g.spans → wait = g.wait → 1 ≤ g.traces → g.traces ≤ 64 → 1 ≤ g.spans → g.spans ≤ 16 → g.wait ≤ 1099511627776 → Buf w' (w.heap.size + 1) g (fun b => b = w.heap.size ∨ b = w.heap.size + 1) [] [] → Fr (fun _ => False) w w' → K (.tuple #[.pointer (some ⟨w.heap.size + 1, 0, none⟩), .int .i64 0]) w') :
    callT P F.buffer_New [.int .i64 traces, .int .i64 spans, .int .u64 wait] w K := by
  apply M.buffer_New.calls
  unfold M.buffer_New
  simp only [joinT_eq]
  by_cases a1 : traces < 1
  · simp [a1]; exact h0 (.inl a1)
  by_cases a2 : 64 < traces
  · simp [a1, a2]; exact h0 (.inr (.inl a2))
  by_cases a3 : spans < 1
  · simp [a1, a2, a3]; exact h0 (.inr (.inr (.inl a3)))
  by_cases a4 : 16 < spans
  · simp [a1, a2, a3, a4]; exact h0 (.inr (.inr (.inr (.inl a4))))
  by_cases a5 : 1099511627776 < wait
  · simp [a1, a2, a3, a4, a5]; exact h0 (.inr (.inr (.inr (.inr a5))))
  simp [a1, a2, a3, a4, a5]
  rw [mkm_eq]
  simp
  obtain ⟨n, rfl⟩ : ∃ n : Nat, traces = n := ⟨traces.toNat, by omega⟩
  obtain ⟨k, rfl⟩ : ∃ n : Nat, spans = n := ⟨spans.toNat, by omega⟩
  have hm := MapAt_new w .u64
  refine h1 ⟨n, k, wait⟩ _ rfl rfl rfl (by simp; omega) (by simp; omega) (by simp; omega) (by simp; omega) (by simp; omega) ⟨⟨fun b => b = w.heap.size + 1, w.heap.size, [], [], rfl, ⟨?_, ?_, by simp [mkeys], rfl, fun e he => by (cases he), fun k _ => rfl, by simp, by simp, fun e he => by (cases he), fun e he => by (cases he), fun e he => by (cases he), by omega, fun e he => by (cases he), fun e he => by (cases he), by simp [ckeys]⟩, fun b hb => ?_⟩, fun b hb => ?_⟩ (((Fr.refl _ w).alloc _).alloc _)
  · refine @Hp.new (bufE ⟨n, k, wait⟩ w.heap.size) _ _ ?_
    rw [alloc_heap]
    simp
    rfl
  · exact hm.of_heap (by rw [alloc_heap, if_neg (by simp)])
  · rcases hb with h | h | ⟨e, he, _⟩
    · exact .inr h
    · exact .inl h
    · cases he
  · simp; omega
end Go.Proofs.Ytgcpljghnlohbaa
