/- What the reference and the program tell of a text being a word. Conditions: none. -/
import Derived.Test.YtcklblagklojhaaJ0
import Derived.Test.YtcklblagklojhaaJ1
namespace Go.Proofs.Ytcklblagklojhaa.Pure
open Go.RowKit Go.Proofs.Ytcklblagklojhaa.J Go.Proofs.YtcklblagklojhaaW.PrintWords Go.Proofs.YtcklblagklojhaaW.PrintLast
set_option linter.unusedVariables false
set_option linter.unusedSimpArgs false
namespace NW
theorem wrap_id {x : Int} (h0 : -9223372036854775808 ≤ x) (h1 : x ≤ 9223372036854775807) : wrap64 x = x := by
  unfold wrap64; omega
theorem spec_in (a b c : Int) : spec_l01In.f a b c = some (decide (b ≤ a ∧ a ≤ c)) := by
  unfold spec_l01In.f
  by_cases h : b ≤ a
  · rw [if_pos h]; simp [h]
  · rw [if_neg h]; simp [h]
theorem impl_let (a : Int) : impl_areLetters.f a = some (decide (1 ≤ a ∧ a ≤ 3)) := by
  unfold impl_areLetters.f impl_within.f
  by_cases h : 1 ≤ a
  · rw [if_pos h]; simp [h]
  · rw [if_neg h]; simp [h]

/-- From byte i on all are letters of d. -/
def good (d : Int) (s : ByteArray) (i : Nat) : Prop := ∀ j : Nat, i ≤ j → j < s.size → 48 ≤ bt s j ∧ bt s j < 48 + d

theorem spec_word (d : Int) (hd : 1 ≤ d ∧ d ≤ 3) (s : ByteArray) (hs : s.size ≤ 1048576) (m : Nat) : ∀ (i k : Nat), s.size - i ≤ m → i ≤ s.size → m < k →
    ∃ b, spec_l01Word.l0 k d s (i : Int) = some b ∧ (b = true ↔ good d s i) := by
  induction m with
  | zero =>
    intro i k h1 h2 hk
    obtain ⟨k, rfl⟩ : ∃ m, k = m + 1 := ⟨k - 1, by omega⟩
    refine ⟨true, ?_, by simp; intro j a b; omega⟩
    simp only [spec_l01Word.l0]; rw [if_neg (by omega)]
  | succ m ih =>
    intro i k h1 h2 hk
    obtain ⟨k, rfl⟩ : ∃ m, k = m + 1 := ⟨k - 1, by omega⟩
    by_cases hi : i < s.size
    · have hb := bt_range s (i : Int)
      simp only [spec_l01Word.l0]
      rw [if_pos (by omega), if_pos (by omega)]
      by_cases c1 : bt s i < 48
      · rw [if_pos c1]
        exact ⟨false, rfl, by simp; intro h; have := h i (Nat.le_refl _) hi; omega⟩
      · rw [if_neg c1]
        by_cases c2 : (bt s i - 48) % 256 ≥ d
        · rw [if_pos c2]
          exact ⟨false, rfl, by simp; intro h; have := h i (Nat.le_refl _) hi; omega⟩
        · rw [if_neg c2, wrap_id (by omega) (by omega)]
          obtain ⟨b, e, hg⟩ := ih (i + 1) k (by omega) (by omega) (by omega)
          refine ⟨b, by simpa using e, hg.trans ⟨fun h j a b => ?_, fun h j a b => h j (by omega) b⟩⟩
          rcases Nat.lt_or_ge i j with c | c
          · exact h j c b
          · obtain rfl : j = i := by omega
            omega
    · refine ⟨true, ?_, by simp; intro j a b; omega⟩
      simp only [spec_l01Word.l0]; rw [if_neg (by omega)]

theorem impl_word (d : Int) (hd : 1 ≤ d ∧ d ≤ 3) (s : ByteArray) (hs : s.size ≤ 1048576) (most : Int) (m : Nat) : ∀ (i k : Nat), s.size - i ≤ m → i ≤ s.size → m < k →
    ∃ b, impl_isWord.l0 k d s most (s.size : Int) (i : Int) = some b ∧ (b = true ↔ good d s i ∧ (s.size : Int) ≤ most) := by
  induction m with
  | zero =>
    intro i k h1 h2 hk
    obtain ⟨k, rfl⟩ : ∃ m, k = m + 1 := ⟨k - 1, by omega⟩
    refine ⟨decide ((s.size : Int) ≤ most), ?_, by simp; intro _ j a b; omega⟩
    simp only [impl_isWord.l0]; rw [if_neg (by omega)]
  | succ m ih =>
    intro i k h1 h2 hk
    obtain ⟨k, rfl⟩ : ∃ m, k = m + 1 := ⟨k - 1, by omega⟩
    by_cases hi : i < s.size
    · have hb := bt_range s (i : Int)
      simp only [impl_isWord.l0]
      rw [if_pos (by omega), if_pos (by omega), if_pos (by omega), wrap_id (x := bt s i) (by omega) (by omega), wrap_id (x := 48 + d) (by omega) (by omega)]
      by_cases c1 : bt s i < 48
      · rw [if_pos c1]
        exact ⟨false, rfl, by simp; intro h; have := h i (Nat.le_refl _) hi; omega⟩
      · rw [if_neg c1]
        by_cases c2 : bt s i ≥ 48 + d
        · rw [if_pos c2]
          exact ⟨false, rfl, by simp; intro h; have := h i (Nat.le_refl _) hi; omega⟩
        · rw [if_neg c2, wrap_id (by omega) (by omega)]
          obtain ⟨b, e, hg⟩ := ih (i + 1) k (by omega) (by omega) (by omega)
          refine ⟨b, by simpa using e, hg.trans ⟨fun h => ⟨fun j a b => ?_, h.2⟩, fun h => ⟨fun j a b => h.1 j (by omega) b, h.2⟩⟩⟩
          rcases Nat.lt_or_ge i j with c | c
          · exact h.1 j c b
          · obtain rfl : j = i := by omega
            omega
    · refine ⟨decide ((s.size : Int) ≤ most), ?_, by simp; intro _ j a b; omega⟩
      simp only [impl_isWord.l0]; rw [if_neg (by omega)]

theorem spec_wd (d : Int) (hd : 1 ≤ d ∧ d ≤ 3) (s : ByteArray) (hs : s.size ≤ 1048576) (k : Nat) (hk : 1048576 < k) : ∃ b, spec_l01Word.f k d s = some b ∧ (b = true ↔ good d s 0) := spec_word d hd s hs 1048576 0 k (by omega) (by omega) hk
theorem impl_wd (d : Int) (hd : 1 ≤ d ∧ d ≤ 3) (s : ByteArray) (hs : s.size ≤ 1048576) (most : Int) (k : Nat) (hk : 1048576 < k) : ∃ b, impl_isWord.f k d s most = some b ∧ (b = true ↔ good d s 0 ∧ (s.size : Int) ≤ most) := impl_word d hd s hs most 1048576 0 k (by omega) (by omega) hk
end NW
end Go.Proofs.Ytcklblagklojhaa.Pure
