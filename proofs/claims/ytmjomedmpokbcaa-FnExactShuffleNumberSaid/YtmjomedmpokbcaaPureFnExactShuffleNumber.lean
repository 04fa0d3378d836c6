/- ShuffleNumber of the program returns what the reference's ShuffleNumber returns, for all numbers and texts. Conditions: none. -/
import Derived.Test.YtmjomedmpokbcaaPureWd
import Derived.Test.YtmjomedmpokbcaaD0
import Derived.Test.YtmjomedmpokbcaaD1
import Derived.Test.YtmjomedmpokbcaaD2
namespace Go.Proofs.Ytmjomedmpokbcaa.Pure
open Go.RowKit Go.Proofs.Ytmjomedmpokbcaa.D Go.Proofs.YtmjomedmpokbcaaW.PrintWords Go.Proofs.YtmjomedmpokbcaaW.PrintLast
set_option linter.unusedVariables false
set_option linter.unusedSimpArgs false
theorem FnExactShuffleNumber : laws_FnExactShuffleNumber.Pure := by
  intro d v w u _ _ _ _
  refine ⟨1048577, ?_⟩
  unfold laws_FnExactShuffleNumber.f
  by_cases s1 : (v.size : Int) > 1048576
  · rw [if_pos s1]
  rw [if_neg s1]
  by_cases s2 : (w.size : Int) > 1048576
  · rw [if_pos s2]
  rw [if_neg s2]
  by_cases s3 : (u.size : Int) > 1048576
  · rw [if_pos s3]
  rw [if_neg s3]
  have key : ∃ r, spec_ShuffleNumber.f 1048577 d v w u = some r ∧ impl_ShuffleNumber.f 1048577 d v w u = some r := by
    unfold spec_ShuffleNumber.f impl_ShuffleNumber.f
    simp only [NW.spec_in, NW.impl_let, Option.bind_some]
    by_cases hd : 1 ≤ d ∧ d ≤ 3
    · have hd' : decide (1 ≤ d ∧ d ≤ 3) = true := by simpa using hd
      simp only [hd', if_true]
      obtain ⟨b1, e1, g1⟩ := NW.spec_wd d hd v (by omega) 1048577 (by omega)
      obtain ⟨b2, e2, g2⟩ := NW.spec_wd d hd w (by omega) 1048577 (by omega)
      obtain ⟨b3, e3, g3⟩ := NW.spec_wd d hd u (by omega) 1048577 (by omega)
      obtain ⟨c1, f1, h1⟩ := NW.impl_wd d hd v (by omega) 8 1048577 (by omega)
      obtain ⟨c2, f2, h2⟩ := NW.impl_wd d hd w (by omega) 8 1048577 (by omega)
      obtain ⟨c3, f3, h3⟩ := NW.impl_wd d hd u (by omega) 8 1048577 (by omega)
      rw [← g1] at h1
      rw [← g2] at h2
      rw [← g3] at h3
      rw [e1, e2, e3, f1, f2, f3]
      simp only [Option.bind_some]
      by_cases p1 : ¬ b1 = true
      · rw [if_neg p1, if_neg (fun h => p1 (h1.1 h).1)]; exact ⟨_, rfl, rfl⟩
      replace p1 := Decidable.not_not.1 p1
      by_cases p2 : ¬ b2 = true
      · rw [if_pos p1, if_neg p2]
        by_cases r1 : c1 = true
        · rw [if_pos r1, if_neg (fun h => p2 (h2.1 h).1)]; exact ⟨_, rfl, rfl⟩
        · rw [if_neg r1]; exact ⟨_, rfl, rfl⟩
      replace p2 := Decidable.not_not.1 p2
      by_cases p3 : ¬ b3 = true
      · rw [if_pos p1, if_pos p2, if_neg p3]
        by_cases r1 : c1 = true
        · rw [if_pos r1]
          by_cases r2 : c2 = true
          · rw [if_pos r2, if_neg (fun h => p3 (h3.1 h).1)]; exact ⟨_, rfl, rfl⟩
          · rw [if_neg r2]; exact ⟨_, rfl, rfl⟩
        · rw [if_neg r1]; exact ⟨_, rfl, rfl⟩
      replace p3 := Decidable.not_not.1 p3
      by_cases q1 : (v.size : Int) > 8
      · rw [if_pos p1, if_pos p2, if_pos p3, if_pos q1, if_neg (by rw [h1]; omega)]; exact ⟨_, rfl, rfl⟩
      by_cases q2 : (w.size : Int) > 8
      · rw [if_pos p1, if_pos p2, if_pos p3, if_neg q1, if_pos q2, if_pos (h1.2 ⟨p1, by omega⟩), if_neg (by rw [h2]; omega)]; exact ⟨_, rfl, rfl⟩
      by_cases q3 : (u.size : Int) > 8
      · rw [if_pos p1, if_pos p2, if_pos p3, if_neg q1, if_neg q2, if_pos q3, if_pos (h1.2 ⟨p1, by omega⟩), if_pos (h2.2 ⟨p2, by omega⟩), if_neg (by rw [h3]; omega)]; exact ⟨_, rfl, rfl⟩
      rw [if_pos p1, if_pos p2, if_pos p3, if_neg q1, if_neg q2, if_neg q3, if_pos (h1.2 ⟨p1, by omega⟩), if_pos (h2.2 ⟨p2, by omega⟩), if_pos (h3.2 ⟨p3, by omega⟩)]
      unfold spec_l03Number.f impl_shuffleNumber.f
      rw [if_pos (by omega)]
      exact ⟨_, rfl, rfl⟩
    · have hd' : decide (1 ≤ d ∧ d ≤ 3) = false := by simpa using hd
      simp only [hd', Bool.false_eq_true, if_false]
      exact ⟨_, rfl, rfl⟩
  obtain ⟨r, e1, e2⟩ := key
  rw [e1, e2]
  simp
end Go.Proofs.Ytmjomedmpokbcaa.Pure
