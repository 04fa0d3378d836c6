/- WordsOf of the program returns what the reference's WordsOf returns, for all numbers of letters and lengths, in memory of its own. Conditions: none. -/
import Derived.Test.YtmjomedmpokbcaaC0
import Derived.Test.YtmjomedmpokbcaaC1
import Derived.Test.YtmjomedmpokbcaaC2
import Derived.Test.YtmjomedmpokbcaaC3
import Derived.Test.YtmjomedmpokbcaaC4
namespace Go.Proofs.Ytmjomedmpokbcaa.Pure
open Go.RowKit Go.Proofs.Ytmjomedmpokbcaa.C Go.Proofs.YtmjomedmpokbcaaW.PrintWords Go.Proofs.YtmjomedmpokbcaaW.PrintLast
set_option linter.unusedVariables false
set_option linter.unusedSimpArgs false
set_option maxRecDepth 100000
namespace WO
theorem spec_in (a b c : Int) : spec_l01In.f a b c = some (decide (b ≤ a ∧ a ≤ c)) := by
  unfold spec_l01In.f
  by_cases h : b ≤ a
  · rw [if_pos h]; simp [h]
  · rw [if_neg h]; simp [h]
theorem impl_in (a b c : Int) : impl_within.f a b c = some (decide (b ≤ a ∧ a ≤ c)) := by
  unfold impl_within.f
  by_cases h : b ≤ a
  · rw [if_pos h]; simp [h]
  · rw [if_neg h]; simp [h]
theorem inside : ∀ d < 3, ∀ n < 6, laws_FnExactWordsOf.f 2000 (((d : Nat) : Int) + 1) ((n : Nat) : Int) = some true := by decide +kernel
theorem spec_no {a b : Int} (h : ¬ (1 ≤ a ∧ a ≤ 3 ∧ 0 ≤ b ∧ b ≤ 5)) : spec_WordsOf.f a b = some ([], 2) := by
  unfold spec_WordsOf.f
  simp only [spec_in, Option.bind_some]
  by_cases h1 : 1 ≤ a ∧ a ≤ 3
  · rw [if_pos (by simpa using h1), if_neg (by simp; omega)]
  · rw [if_neg (by simpa using h1)]
theorem impl_no {a b : Int} (k : Nat) (h : ¬ (1 ≤ a ∧ a ≤ 3 ∧ 0 ≤ b ∧ b ≤ 5)) : impl_WordsOf.f k a b = some ([], 2) := by
  unfold impl_WordsOf.f impl_areLetters.f
  simp only [impl_in, Option.bind_some]
  by_cases h1 : 1 ≤ a ∧ a ≤ 3
  · rw [if_pos (by simpa using h1), if_neg (by simp; omega)]
  · rw [if_neg (by simpa using h1)]
theorem outside {a b : Int} (h : ¬ (1 ≤ a ∧ a ≤ 3 ∧ 0 ≤ b ∧ b ≤ 5)) : laws_FnExactWordsOf.f 3 a b = some true := by
  have h1 := spec_no h
  have h2 := fun k => impl_no k h
  have e1 : laws_eqStringS.f 3 [] [] = some true := by decide
  have e2 : laws_eqStringS.f 2 [] [] = some true := by decide
  have e3 : laws_markStringS.f 2 [] 1 = some (1, []) := by decide
  have e4 : laws_heldStringS.f 2 [] 1 = some 1 := by decide
  have e5 : laws_heldStringS.f 1 [] 1 = some 1 := by decide
  simp [laws_FnExactWordsOf.f, laws_FnExactWordsOf.j0, laws_FnExactWordsOf.j1, h1, h2, e1, e2, e3, e4, e5]
end WO
theorem FnExactWordsOf : laws_FnExactWordsOf.Pure := by
  intro a b _ _
  by_cases h : 1 ≤ a ∧ a ≤ 3 ∧ 0 ≤ b ∧ b ≤ 5
  · refine ⟨2000, ?_⟩
    have := WO.inside (a - 1).toNat (by omega) b.toNat (by omega)
    rwa [show (((a - 1).toNat : Nat) : Int) + 1 = a by omega, show ((b.toNat : Nat) : Int) = b by omega] at this
  · exact ⟨3, WO.outside h⟩
end Go.Proofs.Ytmjomedmpokbcaa.Pure
