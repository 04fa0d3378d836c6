/- WordOfNumber of the program returns what the reference's WordOfNumber returns, for all numbers. Conditions: none. -/
import Derived.Test.YtmjomedmpokbcaaPureWords
import Derived.Test.YtmjomedmpokbcaaB0
import Derived.Test.YtmjomedmpokbcaaB1
import Derived.Test.YtmjomedmpokbcaaB2
import Derived.Test.YtmjomedmpokbcaaB3
import Derived.Test.YtmjomedmpokbcaaB4
namespace Go.Proofs.Ytmjomedmpokbcaa.Pure
open Go.RowKit Go.Proofs.Ytmjomedmpokbcaa.B Go.Proofs.YtmjomedmpokbcaaW.PrintWords Go.Proofs.YtmjomedmpokbcaaW.PrintLast
set_option linter.unusedVariables false
set_option linter.unusedSimpArgs false
set_option maxRecDepth 100000
namespace WN
theorem wrap_id {x : Int} (h0 : -9223372036854775808 ≤ x) (h1 : x ≤ 9223372036854775807) : wrap64 x = x := by
  unfold wrap64; omega
theorem spec_in (a b c : Int) : spec_l01In.f a b c = some (decide (b ≤ a ∧ a ≤ c)) := by
  unfold spec_l01In.f
  by_cases h : b ≤ a
  · rw [if_pos h]; simp [h]
  · rw [if_neg h]; simp [h]
theorem impl_let (a : Int) : impl_areLetters.f a = some (decide (1 ≤ a ∧ a ≤ 3)) := by
  unfold impl_areLetters.f impl_within.f
  by_cases h : 1 ≤ a
  · rw [if_pos h]; simp [h]
  · rw [if_neg h]; simp [h]
/-- The number of words of i letters. -/
def pw (d : Int) : Nat → Int
  | 0 => 1
  | i + 1 => pw d i * d
theorem count (d : Int) (hd : d = 1 ∨ d = 2 ∨ d = 3) (i : Nat) (hi : i ≤ 5) (k : Nat) : spec_l01Count.f (k + 10) d (i : Int) = some (pw d i) := by
  have : i = 0 ∨ i = 1 ∨ i = 2 ∨ i = 3 ∨ i = 4 ∨ i = 5 := by omega
  unfold spec_l01Count.f
  rcases hd with rfl | rfl | rfl <;> rcases this with rfl | rfl | rfl | rfl | rfl | rfl <;> simp [spec_l01Count.l0, pw, wrap64]
/-- One round of the reference's loop at a great number. -/
theorem step (d : Int) (hd : d = 1 ∨ d = 2 ∨ d = 3) (i : Nat) (hi : i ≤ 5) (f : Nat) (hf : 10 ≤ f) (x : Int) (h : pw d i ≤ x) (hx : x ≤ 9223372036854775807) (hp : 0 ≤ pw d i) :
    spec_WordOfNumber.l0 (f + 1) d x (i : Int) = spec_WordOfNumber.l0 f d (x - pw d i) (((i + 1 : Nat)) : Int) := by
  have e : (((i + 1 : Nat)) : Int) = (i : Int) + 1 := by omega
  have hcnt : spec_l01Count.f f d (i : Int) = some (pw d i) := by
    obtain ⟨g, rfl⟩ : ∃ g, f = g + 10 := ⟨f - 10, by omega⟩
    exact count d hd i (by omega) g
  rw [e]
  simp only [spec_WordOfNumber.l0]
  rw [if_pos (by omega), hcnt]
  simp only [Option.bind_some]
  rw [if_pos (by omega), wrap_id (x := x - pw d i) (by omega) (by omega), wrap_id (x := (i : Int) + 1) (by omega) (by omega)]
theorem pw_pos (d : Int) (hd : d = 1 ∨ d = 2 ∨ d = 3) (i : Nat) (hi : i ≤ 5) : 0 ≤ pw d i := by
  have : i = 0 ∨ i = 1 ∨ i = 2 ∨ i = 3 ∨ i = 4 ∨ i = 5 := by omega
  rcases hd with rfl | rfl | rfl <;> rcases this with rfl | rfl | rfl | rfl | rfl | rfl <;> simp [pw]
theorem far (d : Int) (hd : d = 1 ∨ d = 2 ∨ d = 3) (x : Int) (h : pw d 0 + pw d 1 + pw d 2 + pw d 3 + pw d 4 + pw d 5 ≤ x) (hx : x ≤ 9223372036854775807) (k : Nat) (hk : 10 ≤ k) :
    spec_WordOfNumber.l0 (k + 1 + 1 + 1 + 1 + 1 + 1 + 1) d x ((0 : Nat) : Int) = some ((⟨#[]⟩ : ByteArray), 2) := by
  have h0 := pw_pos d hd 0 (by omega)
  have h1 := pw_pos d hd (0 + 1) (by omega)
  have h2 := pw_pos d hd (0 + 1 + 1) (by omega)
  have h3 := pw_pos d hd (0 + 1 + 1 + 1) (by omega)
  have h4 := pw_pos d hd (0 + 1 + 1 + 1 + 1) (by omega)
  have h5 := pw_pos d hd (0 + 1 + 1 + 1 + 1 + 1) (by omega)
  have h' : pw d 0 + pw d (0 + 1) + pw d (0 + 1 + 1) + pw d (0 + 1 + 1 + 1) + pw d (0 + 1 + 1 + 1 + 1) + pw d (0 + 1 + 1 + 1 + 1 + 1) ≤ x := h
  rw [step d hd 0 (by omega) _ (by omega) x (by omega) hx h0]
  rw [step d hd (0 + 1) (by omega) _ (by omega) (x - pw d 0) (by omega) (by omega) h1]
  rw [step d hd (0 + 1 + 1) (by omega) _ (by omega) (x - pw d 0 - pw d (0 + 1)) (by omega) (by omega) h2]
  rw [step d hd (0 + 1 + 1 + 1) (by omega) _ (by omega) (x - pw d 0 - pw d (0 + 1) - pw d (0 + 1 + 1)) (by omega) (by omega) h3]
  rw [step d hd (0 + 1 + 1 + 1 + 1) (by omega) _ (by omega) (x - pw d 0 - pw d (0 + 1) - pw d (0 + 1 + 1) - pw d (0 + 1 + 1 + 1)) (by omega) (by omega) h4]
  rw [step d hd (0 + 1 + 1 + 1 + 1 + 1) (by omega) _ (by omega) (x - pw d 0 - pw d (0 + 1) - pw d (0 + 1 + 1) - pw d (0 + 1 + 1 + 1) - pw d (0 + 1 + 1 + 1 + 1)) (by omega) (by omega) h5]
  simp only [spec_WordOfNumber.l0]
  rw [if_neg (by omega)]

/-- One letter number d with its list of words. -/
theorem one (d x : Int) (hd : d = 1 ∨ d = 2 ∨ d = 3) (h0 : 0 ≤ x) (hx : x ≤ 9223372036854775807) (L : List ByteArray) (n : Nat) (hn : L.length = n)
    (hall : impl_allWords.f 1000 d 5 = some L) (hspec : ∀ k < n, spec_WordOfNumber.f 1000 d ((k : Nat) : Int) = some (rdOf ByteArray.empty L ((k : Nat) : Int), 0))
    (htot : pw d 0 + pw d 1 + pw d 2 + pw d 3 + pw d 4 + pw d 5 = (n : Int)) (hin : spec_l01In.f d 1 3 = some true) (hlet : impl_areLetters.f d = some true)
    (mono : ∀ r, spec_WordOfNumber.f 1000 d x = some r → spec_WordOfNumber.f 1001 d x = some r) : laws_FnExactWordOfNumber.f 1001 d x = some true := by
  have himpl : impl_WordOfNumber.f 1001 d x = if x ≥ (L.length : Int) then some ((⟨#[]⟩ : ByteArray), 2) else some (rdOf ByteArray.empty L x, 0) := by
    unfold impl_WordOfNumber.f
    rw [hlet, Option.bind_some, if_pos rfl]
    show (if (decide (x < 0)) = true then _ else _) = _
    rw [if_neg (by simp; omega), hall]
    simp only [Option.bind_some]
    by_cases c : x ≥ (L.length : Int)
    · rw [if_pos c, if_pos c]
    · rw [if_neg c, if_neg c, if_pos h0, if_pos (by omega)]
  unfold laws_FnExactWordOfNumber.f
  by_cases c : x ≥ (L.length : Int)
  · have hs : spec_WordOfNumber.f 1001 d x = some ((⟨#[]⟩ : ByteArray), 2) := by
      unfold spec_WordOfNumber.f
      rw [hin, Option.bind_some, if_pos rfl]
      show (if (decide (x < 0)) = true then _ else _) = _
      rw [if_neg (by simp; omega)]
      exact far d hd x (by omega) hx 993 (by omega)
    rw [hs, himpl, if_pos c]
    simp
  · obtain ⟨k, rfl⟩ : ∃ k : Nat, x = (k : Int) := ⟨x.toNat, by omega⟩
    rw [mono _ (hspec k (by omega)), himpl, if_neg c]
    simp
end WN
open WN
theorem FnExactWordOfNumber : laws_FnExactWordOfNumber.Pure := by
  intro d x _ hx0
  have hx : x ≤ 9223372036854775807 := by
    unfold Lit.wf at hx0; rw [Bool.and_eq_true, decide_eq_true_eq, decide_eq_true_eq] at hx0; exact hx0.2
  by_cases hd : 1 ≤ d ∧ d ≤ 3
  · by_cases h0 : x < 0
    · refine ⟨1001, ?_⟩
      unfold laws_FnExactWordOfNumber.f spec_WordOfNumber.f impl_WordOfNumber.f
      rw [spec_in, impl_let, decide_eq_true hd]
      simp [h0, spec_WordOfNumber.j0, impl_WordOfNumber.j0]
    · have hd' : d = 1 ∨ d = 2 ∨ d = 3 := by omega
      refine ⟨1001, ?_⟩
      have mono : ∀ r, spec_WordOfNumber.f 1000 d x = some r → spec_WordOfNumber.f 1001 d x = some r := spec_WordOfNumber.mono d x 1000
      have hin : spec_l01In.f d 1 3 = some true := by rw [spec_in, decide_eq_true hd]
      have hlet : impl_areLetters.f d = some true := by rw [impl_let, decide_eq_true hd]
      rcases hd' with rfl | rfl | rfl
      · exact one 1 x (Or.inl rfl) (by omega) hx L1 6 rfl all1 spec1 (by simp [pw]) hin hlet mono
      · exact one 2 x (Or.inr (Or.inl rfl)) (by omega) hx L2 63 rfl all2 spec2 (by simp [pw]) hin hlet mono
      · exact one 3 x (Or.inr (Or.inr rfl)) (by omega) hx L3 364 rfl all3 spec3 (by simp [pw]) hin hlet mono
  · refine ⟨1001, ?_⟩
    unfold laws_FnExactWordOfNumber.f spec_WordOfNumber.f impl_WordOfNumber.f
    rw [spec_in, impl_let, decide_eq_false hd]
    simp [spec_WordOfNumber.j0, impl_WordOfNumber.j0]

end Go.Proofs.Ytmjomedmpokbcaa.Pure
