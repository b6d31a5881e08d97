/-
  Names of spans: which are right. No condition.
-/
import Derived.Test.YtgcpljghnlohbaaM
import Derived.Test.YtgcpljghnlohbaaFacts
import Derived.Test.YtgcpljghnlohbaaEngStr
set_option maxRecDepth 100000
namespace Go.Proofs.Ytgcpljghnlohbaa
open Go.Eng

@[simp] theorem strT : isStrB P T.string = true := by refine Eq.trans ?_ rfl; kernel_rfl
@[simp] theorem lenS (ty : TypeId) (cs : List Bool) (s : ByteArray) (w : World) (K : KV) : biT P .len #[T.string] ty cs [.string s] w K = K (.int .i64 s.size) w := len_str strT cs s w K

theorem toList_empty (s : ByteArray) : s.toList.isEmpty = decide (s.size = 0) := by
  have h : s.size = s.data.toList.length := Array.length_toList.symm
  rw [ByteArray.toList_eq, h]
  cases s.data.toList <;> simp
/-- Does a text begin with another one? -/
def hasPre (s p : ByteArray) : Bool := decide (p.size ≤ s.size) && ((s.extract 0 p.size).toList == p.toList)
theorem hasPrefix_ok {w : World} (s p : ByteArray) {K : KV} (h : K (.bool (hasPre s p)) w) : callT P F.strings_HasPrefix [.string s, .string p] w K := by
  apply M.strings_HasPrefix.calls
  unfold M.strings_HasPrefix
  rw [M.internal_stringslite_HasPrefix.fcall]
  apply M.internal_stringslite_HasPrefix.calls
  unfold M.internal_stringslite_HasPrefix
  unfold hasPre at h
  by_cases hl : p.size ≤ s.size
  · have hl' : (p.size : Int) ≤ s.size := by omega
    have hsl : ∀ K, slT P T.string (.string s) none (some (.int .i64 (p.size : Int))) none w K = K (.string (s.extract 0 p.size)) w := fun K => sl_str strT (.inl ⟨rfl, rfl⟩) (.inr ⟨_, rfl⟩) (Nat.zero_le _) hl w K
    simp [hl, hsl, bin_eqlS] at h ⊢
    exact h
  · have hl' : ¬ (p.size : Int) ≤ s.size := by omega
    simp [hl] at h ⊢
    exact h

def runeErr : ByteArray := ⟨#[239, 191, 189]⟩
def badRune (s : ByteArray) (i : Nat) : Bool := decide ((Utf8.decode s i).1 < 32) || ((decide (127 ≤ (Utf8.decode s i).1) && decide ((Utf8.decode s i).1 ≤ 159)) || (decide ((Utf8.decode s i).1 = 65533) && !hasPre (s.extract i s.size) runeErr))
/-- Are the runes from a place on right? -/
def runesOk (s : ByteArray) (i : Nat) : Bool :=
  if h : i < s.size then !badRune s i && runesOk s (i + (Utf8.decode s i).2) else true
termination_by s.size - i
decreasing_by have := decode_width s i; omega
def nameK (s : ByteArray) : Int := if s.size = 0 ∨ 32 < s.size then 5 else if runesOk s 0 = true then 0 else 5

def NameI (w : World) (s : ByteArray) : KL := fun x w1 => ∃ (pos : Nat), w1.heap[w.heap.size]? = some (.stringIter s pos) ∧ Fr (fun _ => False) w w1 ∧ runesOk s pos = runesOk s 0
def mIter (s : ByteArray) (it : Nat) (w : World) : Nat := match w.heap[it]? with
  | some (.stringIter _ pos) => s.size - pos
  | _ => 0
theorem name_ok {w : World} (s : ByteArray) {K : KV} (h : ∀ w', Fr (fun _ => False) w w' → K (.int .i64 (nameK s)) w') : callT P F.span_Name [.string s] w K := by
  apply M.span_Name.calls
  unfold M.span_Name
  simp only [joinT_eq]
  have hemp : s.toList.isEmpty = decide (s.size = 0) := toList_empty s
  unfold nameK at h
  by_cases h0 : s.size = 0
  · simp [bin_eqlS, hemp, h0] at h ⊢
    exact h w (Fr.refl _ _)
  · by_cases h1 : 32 < s.size
    · have h1' : (32 : Int) < s.size := by omega
      simp [bin_eqlS, hemp, h0, h1, h1'] at h ⊢
      exact h w (Fr.refl _ _)
    · have h1' : ¬ (32 : Int) < s.size := by omega
      simp [bin_eqlS, hemp, h0, h1, h1'] at h ⊢
      unfold M.span_Name.j0
      simp only [joinT_eq]
      rw [rg_str (isStrB_spec strT)]
      refine ⟨NameI w s, fun _ w1 => mIter s w.heap.size w1, ⟨0, by rw [alloc_heap, if_pos rfl], (Fr.refl _ w).alloc _, rfl⟩, ?_⟩
      rintro x w1 ⟨pos, hit, hf, hp⟩
      refine nx_str hit _ (fun he => ?_) fun hlt w2 hit2 hf2 => ?_
      · have hr : runesOk s 0 = true := by rw [← hp]; unfold runesOk; rw [dif_neg he]
        have e0 : ∀ w K, exT P (.tuple #[.bool false]) 0 w K = K (.bool false) w := fun _ _ => rfl
        simp [e0]
        have := h w1 hf
        simpa [hr] using this
      · simp
        unfold M.span_Name.j3
        simp
        have hr : runesOk s pos = (!badRune s pos && runesOk s (pos + (Utf8.decode s pos).2)) := by
          conv => lhs; unfold runesOk
          rw [dif_pos hlt]
        have F2 : Fr (fun _ => False) w w2 := hf.trans' hf2 fun g hg h' => by omega
        have hbad : badRune s pos = true → K (.int .i64 5) w2 := fun hb => by
          rw [hb, hp] at hr
          have := h w2 F2
          simpa [hr] using this
        have hgood : badRune s pos = false → ∀ xs, NameI w s xs w2 ∧ mIter s w.heap.size w2 < mIter s w.heap.size w1 := fun hb xs => by
          rw [hb, hp] at hr
          refine ⟨⟨_, hit2, F2, by rw [hr]; rfl⟩, ?_⟩
          have := decode_width s pos
          simp only [mIter, hit, hit2]; omega
        unfold badRune at hbad hgood
        generalize hc : (Utf8.decode s pos).1 = c at *
        clear hc
        have hsl : ∀ K, slT P T.string (.string s) (some (.int .i64 (pos : Int))) none none w2 K = K (.string (s.extract pos s.size)) w2 := fun K => sl_str strT (.inr ⟨_, rfl⟩) (.inl ⟨rfl, rfl⟩) (by omega) (Nat.le_refl _) w2 K
        have j4 : ∀ (b : Bool) (t14 : Value), b = (decide (c < 32) || (decide (127 ≤ c) && decide (c ≤ 159))) → M.span_Name.j4 [.bool b] (.int .i32 c) (.string s) (.int .i64 pos) (fun x' w' => NameI w s x' w' ∧ mIter s w.heap.size w' < mIter s w.heap.size w1) t14 x w2 K := by
          intro b t14 hb
          unfold M.span_Name.j4
          cases b with
          | true => simp at hb ⊢; exact hbad (by simp; omega)
          | false =>
            by_cases he : c = 65533
            · have he' : (c : Int) = 65533 := by omega
              simp [he', hsl]
              rw [M.strings_HasPrefix.fcall]
              refine hasPrefix_ok _ _ ?_
              have hx : hasPre (s.extract pos s.size) ⟨#[239, 191, 189]⟩ = hasPre (s.extract pos s.size) runeErr := rfl
              rw [hx]
              cases hq : hasPre (s.extract pos s.size) runeErr with
              | true => simp; exact hgood (by simp [he, hq]) _
              | false => simp; exact hbad (by simp [he, hq])
            · have he' : ¬ (c : Int) = 65533 := by omega
              simp [he']
              refine hgood ?_ _
              have : (decide (c < 32) || (decide (127 ≤ c) && decide (c ≤ 159))) = false := hb.symm
              simp [he] at this ⊢
              exact this
        by_cases h32 : c < 32
        · have h32' : (c : Int) < 32 := by omega
          simp [h32']
          exact j4 true _ (by simp [h32])
        · have h32' : ¬ (c : Int) < 32 := by omega
          by_cases h127 : 127 ≤ c
          · have h127' : (127 : Int) ≤ c := by omega
            by_cases h159 : c ≤ 159
            · have h159' : (c : Int) ≤ 159 := by omega
              simp [h32', h127', h159']
              exact j4 true _ (by simp [h32, h127, h159])
            · have h159' : ¬ (c : Int) ≤ 159 := by omega
              simp [h32', h127', h159']
              exact j4 false _ (by simp [h32, h127, h159])
          · have h127' : ¬ (127 : Int) ≤ c := by omega
            simp [h32', h127']
            exact j4 false _ (by simp [h32, h127])
end Go.Proofs.Ytgcpljghnlohbaa
