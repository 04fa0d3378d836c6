/- NumberOfWord of the program returns what the reference's NumberOfWord returns, for all numbers and texts. Conditions: none. -/
import Derived.Test.YtmjomedmpokbcaaB0
import Derived.Test.YtmjomedmpokbcaaB1
import Derived.Test.YtmjomedmpokbcaaB2
import Derived.Test.YtmjomedmpokbcaaB3
namespace Go.Proofs.Ytmjomedmpokbcaa.Pure
open Go.RowKit Go.Proofs.Ytmjomedmpokbcaa.B Go.Proofs.YtmjomedmpokbcaaW.PrintWords Go.Proofs.YtmjomedmpokbcaaW.PrintLast
set_option linter.unusedVariables false
set_option linter.unusedSimpArgs false
namespace NW

theorem wrap_id {x : Int} (h0 : -9223372036854775808 ≤ x) (h1 : x ≤ 9223372036854775807) : wrap64 x = x := by
  unfold wrap64; omega
theorem spec_in (a b c : Int) : spec_l01In.f a b c = some (decide (b ≤ a ∧ a ≤ c)) := by
  unfold spec_l01In.f
  by_cases h : b ≤ a
  · rw [if_pos h]; simp [h]
  · rw [if_neg h]; simp [h]
theorem impl_let (a : Int) : impl_areLetters.f a = some (decide (1 ≤ a ∧ a ≤ 3)) := by
  unfold impl_areLetters.f impl_within.f
  by_cases h : 1 ≤ a
  · rw [if_pos h]; simp [h]
  · rw [if_neg h]; simp [h]

/-- From byte i on all are letters of d. -/
def good (d : Int) (s : ByteArray) (i : Nat) : Prop := ∀ j : Nat, i ≤ j → j < s.size → 48 ≤ bt s j ∧ bt s j < 48 + d

theorem spec_word (d : Int) (hd : 1 ≤ d ∧ d ≤ 3) (s : ByteArray) (hs : s.size ≤ 1048576) (m : Nat) : ∀ (i k : Nat), s.size - i ≤ m → i ≤ s.size → m < k →
    ∃ b, spec_l01Word.l0 k d s (i : Int) = some b ∧ (b = true ↔ good d s i) := by
  induction m with
  | zero =>
    intro i k h1 h2 hk
    obtain ⟨k, rfl⟩ : ∃ m, k = m + 1 := ⟨k - 1, by omega⟩
    refine ⟨true, ?_, by simp; intro j a b; omega⟩
    simp only [spec_l01Word.l0]; rw [if_neg (by omega)]
  | succ m ih =>
    intro i k h1 h2 hk
    obtain ⟨k, rfl⟩ : ∃ m, k = m + 1 := ⟨k - 1, by omega⟩
    by_cases hi : i < s.size
    · have hb := bt_range s (i : Int)
      simp only [spec_l01Word.l0]
      rw [if_pos (by omega), if_pos (by omega)]
      by_cases c1 : bt s i < 48
      · rw [if_pos c1]
        exact ⟨false, rfl, by simp; intro h; have := h i (Nat.le_refl _) hi; omega⟩
      · rw [if_neg c1]
        by_cases c2 : (bt s i - 48) % 256 ≥ d
        · rw [if_pos c2]
          exact ⟨false, rfl, by simp; intro h; have := h i (Nat.le_refl _) hi; omega⟩
        · rw [if_neg c2, wrap_id (by omega) (by omega)]
          obtain ⟨b, e, hg⟩ := ih (i + 1) k (by omega) (by omega) (by omega)
          refine ⟨b, by simpa using e, hg.trans ⟨fun h j a b => ?_, fun h j a b => h j (by omega) b⟩⟩
          rcases Nat.lt_or_ge i j with c | c
          · exact h j c b
          · obtain rfl : j = i := by omega
            omega
    · refine ⟨true, ?_, by simp; intro j a b; omega⟩
      simp only [spec_l01Word.l0]; rw [if_neg (by omega)]

theorem impl_word (d : Int) (hd : 1 ≤ d ∧ d ≤ 3) (s : ByteArray) (hs : s.size ≤ 1048576) (most : Int) (m : Nat) : ∀ (i k : Nat), s.size - i ≤ m → i ≤ s.size → m < k →
    ∃ b, impl_isWord.l0 k d s most (s.size : Int) (i : Int) = some b ∧ (b = true ↔ good d s i ∧ (s.size : Int) ≤ most) := by
  induction m with
  | zero =>
    intro i k h1 h2 hk
    obtain ⟨k, rfl⟩ : ∃ m, k = m + 1 := ⟨k - 1, by omega⟩
    refine ⟨decide ((s.size : Int) ≤ most), ?_, by simp; intro _ j a b; omega⟩
    simp only [impl_isWord.l0]; rw [if_neg (by omega)]
  | succ m ih =>
    intro i k h1 h2 hk
    obtain ⟨k, rfl⟩ : ∃ m, k = m + 1 := ⟨k - 1, by omega⟩
    by_cases hi : i < s.size
    · have hb := bt_range s (i : Int)
      simp only [impl_isWord.l0]
      rw [if_pos (by omega), if_pos (by omega), if_pos (by omega), wrap_id (x := bt s i) (by omega) (by omega), wrap_id (x := 48 + d) (by omega) (by omega)]
      by_cases c1 : bt s i < 48
      · rw [if_pos c1]
        exact ⟨false, rfl, by simp; intro h; have := h i (Nat.le_refl _) hi; omega⟩
      · rw [if_neg c1]
        by_cases c2 : bt s i ≥ 48 + d
        · rw [if_pos c2]
          exact ⟨false, rfl, by simp; intro h; have := h i (Nat.le_refl _) hi; omega⟩
        · rw [if_neg c2, wrap_id (by omega) (by omega)]
          obtain ⟨b, e, hg⟩ := ih (i + 1) k (by omega) (by omega) (by omega)
          refine ⟨b, by simpa using e, hg.trans ⟨fun h => ⟨fun j a b => ?_, h.2⟩, fun h => ⟨fun j a b => h.1 j (by omega) b, h.2⟩⟩⟩
          rcases Nat.lt_or_ge i j with c | c
          · exact h.1 j c b
          · obtain rfl : j = i := by omega
            omega
    · refine ⟨decide ((s.size : Int) ≤ most), ?_, by simp; intro _ j a b; omega⟩
      simp only [impl_isWord.l0]; rw [if_neg (by omega)]

/-- d to the power i. -/
def pw (d : Int) : Nat → Int
  | 0 => 1
  | i + 1 => pw d i * d
theorem pw_le (d : Int) (hd : d = 1 ∨ d = 2 ∨ d = 3) (i : Nat) (hi : i ≤ 5) : 1 ≤ pw d i ∧ pw d i ≤ 243 := by
  have : i = 0 ∨ i = 1 ∨ i = 2 ∨ i = 3 ∨ i = 4 ∨ i = 5 := by omega
  rcases hd with rfl | rfl | rfl <;> rcases this with rfl | rfl | rfl | rfl | rfl | rfl <;> simp [pw]

theorem count (d : Int) (hd : d = 1 ∨ d = 2 ∨ d = 3) (i : Nat) (hi : i ≤ 5) (k : Nat) : spec_l01Count.f (k + 10) d (i : Int) = some (pw d i) := by
  have : i = 0 ∨ i = 1 ∨ i = 2 ∨ i = 3 ∨ i = 4 ∨ i = 5 := by omega
  unfold spec_l01Count.f
  rcases hd with rfl | rfl | rfl <;> rcases this with rfl | rfl | rfl | rfl | rfl | rfl <;> simp [spec_l01Count.l0, pw, wrap64]

theorem both (d : Int) (hd : d = 1 ∨ d = 2 ∨ d = 3) (s : ByteArray) (hs : s.size ≤ 5) (m : Nat) : ∀ (i : Nat) (A V : Int), s.size - i ≤ m → i ≤ s.size →
    ∃ R, ∀ f, m + 20 ≤ f → spec_NumberOfWord.l0 f d s A V (i : Int) = some (R, 0) ∧ impl_number.l0 f d s A V (pw d i) (s.size : Int) (i : Int) = some R := by
  induction m with
  | zero =>
    intro i A V h1 h2
    refine ⟨wrap64 (A + V), fun f hf => ?_⟩
    obtain ⟨f, rfl⟩ : ∃ g, f = g + 1 := ⟨f - 1, by omega⟩
    simp only [spec_NumberOfWord.l0, impl_number.l0]
    rw [if_neg (by omega), if_neg (by omega)]
    exact ⟨rfl, rfl⟩
  | succ m ih =>
    intro i A V h1 h2
    by_cases hi : i < s.size
    · have hp := pw_le d hd i (by omega)
      have hp' := pw_le d hd (i + 1) (by omega)
      have hpe : pw d (i + 1) = pw d i * d := rfl
      rw [hpe] at hp'
      have hw : wrap64 (pw d i * d) = pw d i * d := wrap_id (by omega) (by omega)
      obtain ⟨R, h⟩ := ih (i + 1) (wrap64 (A + pw d i)) (wrap64 ((wrap64 (V * d)) + (((bt s i) - 48) % 256))) (by omega) (by omega)
      have hc : ((i + 1 : Nat) : Int) = (i : Int) + 1 := by omega
      rw [hc, hpe] at h
      have hw1 : wrap64 ((i : Int) + 1) = (i : Int) + 1 := wrap_id (by omega) (by omega)
      refine ⟨R, fun f hf => ?_⟩
      obtain ⟨f, rfl⟩ : ∃ g, f = g + 1 := ⟨f - 1, by omega⟩
      obtain ⟨e1, e2⟩ := h f (by omega)
      have hcnt : spec_l01Count.f f d (i : Int) = some (pw d i) := by
        obtain ⟨g, rfl⟩ : ∃ g, f = g + 10 := ⟨f - 10, by omega⟩
        exact count d hd i (by omega) g
      simp only [spec_NumberOfWord.l0, impl_number.l0]
      rw [hcnt]
      simp only [Option.bind_some]
      rw [hw, hw1, if_pos (by omega), if_pos (by omega), if_pos (by omega), if_pos (by omega), if_pos (by omega)]
      exact ⟨e1, e2⟩
    · refine ⟨wrap64 (A + V), fun f hf => ?_⟩
      obtain ⟨f, rfl⟩ : ∃ g, f = g + 1 := ⟨f - 1, by omega⟩
      simp only [spec_NumberOfWord.l0, impl_number.l0]
      rw [if_neg (by omega), if_neg (by omega)]
      exact ⟨rfl, rfl⟩

end NW
open NW
theorem FnExactNumberOfWord : laws_FnExactNumberOfWord.Pure := by
  intro d s _ hs0
  obtain ⟨Z, hZ⟩ : ∃ Z : Nat, Z = 1048600 := ⟨_, rfl⟩
  by_cases hbig : (s.size : Int) > 1048576
  · exact ⟨0, by unfold laws_FnExactNumberOfWord.f; rw [if_pos hbig]⟩
  refine ⟨Z + 20 + 1, ?_⟩
  unfold laws_FnExactNumberOfWord.f spec_NumberOfWord.f impl_NumberOfWord.f
  rw [if_neg hbig, spec_in, impl_let]
  simp only [Option.bind_some, decide_eq_true_eq]
  by_cases hd : 1 ≤ d ∧ d ≤ 3
  · rw [if_pos hd, if_pos hd]
    have hd' : d = 1 ∨ d = 2 ∨ d = 3 := by omega
    obtain ⟨b, eb, hb⟩ := spec_word d hd s (by omega) s.size 0 (Z + 20 + 1) (by omega) (by omega) (by omega)
    obtain ⟨c, ec, hc⟩ := impl_word d hd s (by omega) 5 s.size 0 (Z + 20 + 1) (by omega) (by omega) (by omega)
    have eb' : spec_l01Word.f (Z + 20 + 1) d s = some b := eb
    have ec' : impl_isWord.f (Z + 20 + 1) d s 5 = some c := ec
    rw [eb', ec']
    simp only [Option.bind_some]
    by_cases hl : (s.size : Int) > 5
    · have hc' : c = false := by
        cases c
        · rfl
        · have := (hc.1 rfl).2; omega
      rw [if_pos hl, hc']
      simp [spec_NumberOfWord.j0]
    · rw [if_neg hl]
      have hbc : c = b := by
        rw [Bool.eq_iff_iff, hc, hb]; constructor
        · exact fun h => h.1
        · exact fun h => ⟨h, by omega⟩
      subst hbc
      cases c
      · simp [spec_NumberOfWord.j0]
      · obtain ⟨R, h⟩ := both d hd' s (by omega) s.size 0 0 0 (by omega) (by omega)
        obtain ⟨e1, _⟩ := h (Z + 20) (by omega)
        obtain ⟨_, e2⟩ := h (Z + 20 + 1) (by omega)
        simp only [spec_NumberOfWord.j0, Bool.not_true, Bool.false_eq_true, if_false]
        rw [show ((0 : Nat) : Int) = 0 from rfl] at e1
        rw [e1, show impl_number.f (Z + 20 + 1) d s = some R from e2]
        simp
  · rw [if_neg hd, if_neg hd]
    simp [spec_NumberOfWord.j0]

end Go.Proofs.Ytmjomedmpokbcaa.Pure
