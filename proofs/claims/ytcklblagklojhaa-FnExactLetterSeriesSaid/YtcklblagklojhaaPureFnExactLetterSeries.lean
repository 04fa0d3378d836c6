/- LetterSeries of the program returns what the reference's LetterSeries returns: the plain law. Conditions: none. -/
import Derived.Test.YtcklblagklojhaaPureTs
import Derived.Test.YtcklblagklojhaaL0
import Derived.Test.YtcklblagklojhaaL1
import Derived.Test.YtcklblagklojhaaL6
namespace Go.Proofs.Ytcklblagklojhaa.Pure
open Go.RowKit Go.Proofs.Ytcklblagklojhaa.L Go.Proofs.YtcklblagklojhaaW.PrintWords Go.Proofs.YtcklblagklojhaaW.PrintLast
set_option linter.unusedVariables false
set_option linter.unusedSimpArgs false
set_option maxRecDepth 100000
namespace LS
theorem byte_eq (a : Int) (h0 : 0 ≤ a) (h1 : a ≤ 2) : (wrap64 (48 + a)) % 256 = (48 + a % 256) % 256 := by unfold wrap64; omega
theorem both (d n a : Int) : ∃ s1 s2 l c, spec_LetterSeries.f d n a = some (s1, s2, l, c) ∧ TS.Ev (fun k => impl_LetterSeries.f k d n a) (s1, s2, l, c) ∧ l.length ≤ 1000000 := by
  have hin : ∀ x y z, spec_l01In.f x y z = some (decide (y ≤ x ∧ x ≤ z)) := fun x y z => by
    unfold spec_l01In.f
    by_cases h : y ≤ x
    · rw [if_pos h]; simp [h]
    · rw [if_neg h]; simp [h]
  have hwi : ∀ x y z, impl_within.f x y z = some (decide (y ≤ x ∧ x ≤ z)) := fun x y z => by
    unfold impl_within.f
    by_cases h : y ≤ x
    · rw [if_pos h]; simp [h]
    · rw [if_neg h]; simp [h]
  have no : ∀ k, impl_LetterSeries.j0 (k + 1) d n a true = some (0, 0, [], 2) := fun k => by simp only [impl_LetterSeries.j0, if_true]
  by_cases hd : 1 ≤ d ∧ d ≤ 3
  · by_cases hn : (1 ≤ n ∧ n ≤ 5) ∧ (d < 3 ∨ n ≤ 4)
    · have hs : spec_l01Sizes.f d n = some true := by
        simp only [spec_l01Sizes.f, hin, Option.bind_some, hd, hn.1, and_self, decide_true, if_true]
        by_cases h3 : d < 3
        · rw [if_pos h3]
        · rw [if_neg h3]; simp; omega
      have hl : impl_isLevel.f d n = some true := by
        simp only [impl_isLevel.f, impl_areLetters.f, hwi, Option.bind_some, hd, hn.1, and_self, decide_true, if_true]
        by_cases h3 : d < 3
        · rw [if_pos h3]
        · rw [if_neg h3]; simp; omega
      by_cases ha : 0 ≤ a ∧ a ≤ wrap64 (d - 1)
      · have hw : wrap64 (d - 1) ≤ 2 := by unfold wrap64; omega
        refine ⟨d, n, [⟨strOfNums [(wrap64 (48 + a)) % 256], ⟨1, 1⟩⟩], 0, ?_, TS.Ev.succ (TS.Ev.at fun k => ?_), by simp⟩
        · simp only [spec_LetterSeries.f, hs, hin, ha, and_self, decide_true, Option.bind_some, if_true, spec_l01One.f]
        · simp only [impl_LetterSeries.f, hl, hwi, ha, and_self, decide_true, Option.bind_some, if_true, Bool.not_true, impl_LetterSeries.j0, Bool.false_eq_true, if_false, impl_letter.f, impl_whole.f]
          rw [byte_eq a ha.1 (by omega)]
      · refine ⟨0, 0, [], 2, ?_, TS.Ev.succ (TS.Ev.at fun k => ?_), by simp⟩
        · simp only [spec_LetterSeries.f, hs, hin, ha, decide_false, Option.bind_some, if_true, Bool.false_eq_true, if_false]
        · simp only [impl_LetterSeries.f, hl, hwi, ha, decide_false, Option.bind_some, if_true, Bool.not_false, no]
    · have hs : spec_l01Sizes.f d n = some false := by
        simp only [spec_l01Sizes.f, hin, Option.bind_some, hd, and_self, decide_true, if_true]
        by_cases h1 : 1 ≤ n ∧ n ≤ 5
        · simp only [h1, and_self, decide_true, if_true]
          rw [if_neg (by omega)]; simp; omega
        · simp only [h1, decide_false, Bool.false_eq_true, if_false]
      have hl : impl_isLevel.f d n = some false := by
        simp only [impl_isLevel.f, impl_areLetters.f, hwi, Option.bind_some, hd, and_self, decide_true, if_true]
        by_cases h1 : 1 ≤ n ∧ n ≤ 5
        · simp only [h1, and_self, decide_true, if_true]
          rw [if_neg (by omega)]; simp; omega
        · simp only [h1, decide_false, Bool.false_eq_true, if_false]
      exact ⟨0, 0, [], 2, by simp only [spec_LetterSeries.f, hs, Option.bind_some, Bool.false_eq_true, if_false], TS.Ev.succ (TS.Ev.at fun k => by simp only [impl_LetterSeries.f, hl, Option.bind_some, Bool.false_eq_true, if_false, no]), by simp⟩
  · have hs : spec_l01Sizes.f d n = some false := by
      simp only [spec_l01Sizes.f, hin, Option.bind_some, hd, decide_false, Bool.false_eq_true, if_false]
    have hl : impl_isLevel.f d n = some false := by
      simp only [impl_isLevel.f, impl_areLetters.f, hwi, Option.bind_some, hd, decide_false, Bool.false_eq_true, if_false]
    exact ⟨0, 0, [], 2, by simp only [spec_LetterSeries.f, hs, Option.bind_some, Bool.false_eq_true, if_false], TS.Ev.succ (TS.Ev.at fun k => by simp only [impl_LetterSeries.f, hl, Option.bind_some, Bool.false_eq_true, if_false, no]), by simp⟩
end LS
theorem FnExactLetterSeries : laws_FnExactLetterSeries.Pure := by
  intro d n a _ _ _
  obtain ⟨s1, s2, l, c, hs, hi, hl⟩ := LS.both d n a
  obtain ⟨m, L, hm, hh, hp, hL⟩ := TS.marks s1 s2 l hl
  have he := TS.eq_s s1 s2 l hl
  refine TS.Ev.pick (v := true) ?_
  simp only [laws_FnExactLetterSeries.f, hs, Option.bind_some]
  repeat first
    | exact TS.Ev.const true
    | (refine TS.Ev.bind hi ?_; try dsimp only)
    | (refine TS.Ev.bind he ?_; try dsimp only)
    | (refine TS.Ev.bind hm ?_; try dsimp only)
    | (refine TS.Ev.bind hh ?_; try dsimp only)
    | (simp only [if_true, bne_self_eq_false, Bool.false_eq_true, if_false, hp])
    | (refine TS.Ev.succ ?_; simp only [laws_FnExactLetterSeries.j0, laws_FnExactLetterSeries.j1, Bool.false_eq_true, if_false])
end Go.Proofs.Ytcklblagklojhaa.Pure
