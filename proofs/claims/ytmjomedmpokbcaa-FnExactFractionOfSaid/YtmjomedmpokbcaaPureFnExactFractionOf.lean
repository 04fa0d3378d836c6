/- FractionOf of the program returns what the reference's FractionOf returns, for all numbers. Conditions: none. -/
import Derived.Test.YtmjomedmpokbcaaPureA
import Derived.Test.YtmjomedmpokbcaaB0
import Derived.Test.YtmjomedmpokbcaaB11
import Derived.Test.YtmjomedmpokbcaaB13
namespace Go.Proofs.Ytmjomedmpokbcaa.Pure
open Go.RowKit Go.Proofs.Ytmjomedmpokbcaa.B Go.Proofs.YtmjomedmpokbcaaW.PrintWords Go.Proofs.YtmjomedmpokbcaaW.PrintLast
set_option linter.unusedVariables false
set_option linter.unusedSimpArgs false

theorem FnExactFractionOf : laws_FnExactFractionOf.Pure := by
  intro a b _ _
  refine ⟨9223372036854775808 + 1, ?_⟩
  unfold laws_FnExactFractionOf.f spec_FractionOf.f impl_FractionOf.f
  rw [spec_in, spec_in, impl_up _ _ (by omega) (by omega), impl_up _ _ (by omega) (by omega)]
  simp only [Option.bind_some, decide_eq_true_eq]
  by_cases h1 : -1000000000000000000 ≤ a ∧ a ≤ 1000000000000000000
  · rw [if_pos h1, if_pos h1]
    by_cases h2 : -1000000000000000000 ≤ b ∧ b ≤ 1000000000000000000
    · rw [decide_eq_true h2]
      simp only [spec_FractionOf.j0, impl_FractionOf.j0, Bool.not_true, Bool.false_eq_true, if_false]
      by_cases h3 : b = 0
      · rw [if_pos h3, if_pos h3]; simp [laws_eqFraction.f]
      · rw [if_neg h3, if_neg h3, spec_frac_eq a b _ (by omega) (by omega) (by omega), impl_reduced_eq a b _ (by omega) h3 (by omega) (by omega), if_neg h3]
        cases hk : okFr a b <;> simp [laws_eqFraction.f, impl_told.f]
    · rw [decide_eq_false h2]
      simp [spec_FractionOf.j0, impl_FractionOf.j0, laws_eqFraction.f]
  · rw [if_neg h1, if_neg h1]
    simp [spec_FractionOf.j0, impl_FractionOf.j0, laws_eqFraction.f]

end Go.Proofs.Ytmjomedmpokbcaa.Pure
