import Derived.Test.YtmjomedmpokbcaaB0
import Derived.Test.YtmjomedmpokbcaaB1
import Derived.Test.YtmjomedmpokbcaaB10
import Derived.Test.YtmjomedmpokbcaaB12
namespace Go.Proofs.Ytmjomedmpokbcaa.Pure
open Go.RowKit Go.Proofs.Ytmjomedmpokbcaa.B Go.Proofs.YtmjomedmpokbcaaW.PrintWords Go.Proofs.YtmjomedmpokbcaaW.PrintLast
set_option linter.unusedVariables false
set_option linter.unusedSimpArgs false

theorem wrap_id {x : Int} (h0 : -9223372036854775808 ≤ x) (h1 : x ≤ 9223372036854775807) : wrap64 x = x := by
  unfold wrap64; omega

theorem spec_in (a b c : Int) : spec_l01In.f a b c = some (decide (b ≤ a ∧ a ≤ c)) := by
  unfold spec_l01In.f
  by_cases h : b ≤ a
  · rw [if_pos h]; simp [h]
  · rw [if_neg h]; simp [h]

theorem impl_in (a b c : Int) : impl_within.f a b c = some (decide (b ≤ a ∧ a ≤ c)) := by
  unfold impl_within.f
  by_cases h : b ≤ a
  · rw [if_pos h]; simp [h]
  · rw [if_neg h]; simp [h]

theorem impl_up (a b : Int) (h0 : -9223372036854775807 ≤ b) (h1 : b ≤ 9223372036854775807) : impl_upTo.f a b = some (decide (-b ≤ a ∧ a ≤ b)) := by
  unfold impl_upTo.f
  rw [impl_in, wrap_id (by omega) (by omega)]; rfl

theorem gcd_tmod (a b : Int) : Int.gcd b (a.tmod b) = Int.gcd a b := by
  unfold Int.gcd
  rw [Int.natAbs_tmod, Nat.gcd_comm, ← Nat.gcd_rec, Nat.gcd_comm]

theorem mx_abs {a : Int} (h0 : -9223372036854775807 ≤ a) (h1 : a ≤ 9223372036854775807) : mx a (wrap64 (-a)) = (a.natAbs : Int) := by
  rw [wrap_id (by omega) (by omega)]; unfold mx; split <;> omega

theorem tmod_lt {a b : Int} (h : b ≠ 0) : (a.tmod b).natAbs < b.natAbs := by
  rw [Int.natAbs_tmod]; exact Nat.mod_lt _ (by omega)

theorem tmod_le (a b : Int) : (a.tmod b).natAbs ≤ a.natAbs := by
  rw [Int.natAbs_tmod]; exact Nat.mod_le _ _

theorem spec_gcd (n : Nat) : ∀ (a b : Int) (k : Nat), b.natAbs ≤ n → n < k → a.natAbs ≤ 9223372036854775807 → b.natAbs ≤ 9223372036854775807 →
    spec_l01Gcd.l0 k a b = some (Int.gcd a b : Int) := by
  induction n with
  | zero =>
    intro a b k hb hk ha _
    obtain ⟨k, rfl⟩ : ∃ m, k = m + 1 := ⟨k - 1, by omega⟩
    obtain rfl : b = 0 := by omega
    simp only [spec_l01Gcd.l0, if_true]
    rw [mx_abs (by omega) (by omega), Int.gcd_zero_right]
  | succ n ih =>
    intro a b k hb hk ha hb'
    obtain ⟨k, rfl⟩ : ∃ m, k = m + 1 := ⟨k - 1, by omega⟩
    by_cases h : b = 0
    · subst h
      simp only [spec_l01Gcd.l0, if_true]
      rw [mx_abs (by omega) (by omega), Int.gcd_zero_right]
    · simp only [spec_l01Gcd.l0]
      rw [if_neg h, ih b (a.tmod b) k (by have := tmod_lt (a := a) h; omega) (by omega) hb' (by have := tmod_le a b; omega), gcd_tmod]

theorem impl_gcd (n : Nat) : ∀ (a b : Int) (k : Nat), b.natAbs ≤ n → n < k → 0 ≤ a → 0 ≤ b →
    impl_common.l0 k a b = some (Int.gcd a b : Int) := by
  induction n with
  | zero =>
    intro a b k hb hk ha _
    obtain ⟨k, rfl⟩ : ∃ m, k = m + 1 := ⟨k - 1, by omega⟩
    obtain rfl : b = 0 := by omega
    simp only [impl_common.l0, if_true]
    rw [Int.gcd_zero_right]; congr 1; omega
  | succ n ih =>
    intro a b k hb hk ha hb'
    obtain ⟨k, rfl⟩ : ∃ m, k = m + 1 := ⟨k - 1, by omega⟩
    by_cases h : b = 0
    · subst h
      simp only [impl_common.l0, if_true]
      rw [Int.gcd_zero_right]; congr 1; omega
    · simp only [impl_common.l0]
      rw [if_neg h, ih b (a.tmod b) k (by have := tmod_lt (a := a) h; omega) (by omega) hb' (Int.tmod_nonneg _ ha), gcd_tmod]

theorem impl_common_eq (a b : Int) (k : Nat) (hk : 9223372036854775808 ≤ k) (ha : a.natAbs ≤ 9223372036854775807) (hb : b.natAbs ≤ 9223372036854775807) :
    impl_common.f k a b = some (Int.gcd a b : Int) := by
  unfold impl_common.f impl_size.f
  simp only [Option.bind_some]
  rw [mx_abs (by omega) (by omega), mx_abs (by omega) (by omega), impl_gcd b.natAbs _ _ _ (by omega) (by omega) (by omega) (by omega)]
  simp [Int.gcd]

theorem spec_gcd_eq (a b : Int) (k : Nat) (hk : 9223372036854775808 ≤ k) (ha : a.natAbs ≤ 9223372036854775807) (hb : b.natAbs ≤ 9223372036854775807) :
    spec_l01Gcd.f k a b = some (Int.gcd a b : Int) := by
  unfold spec_l01Gcd.f
  exact spec_gcd b.natAbs a b k (Nat.le_refl _) (by omega) ha hb

/-- a / b is a fraction that fits. -/
def isFr (a b : Int) : Bool := decide (1 ≤ b ∧ b ≤ 1000000000 ∧ -1000000000 ≤ a ∧ a ≤ 1000000000 ∧ Int.gcd a b = 1)

theorem spec_isFrac_eq (a b : Int) (k : Nat) (hk : 9223372036854775808 ≤ k) : spec_l01IsFrac.f k a b = some (isFr a b) := by
  unfold spec_l01IsFrac.f isFr
  rw [spec_in, spec_in]
  simp only [Option.bind_some, decide_eq_true_eq]
  by_cases h1 : 1 ≤ b ∧ b ≤ 1000000000
  · rw [if_pos h1]
    by_cases h2 : -1000000000 ≤ a ∧ a ≤ 1000000000
    · rw [if_pos h2, spec_gcd_eq a b k hk (by omega) (by omega)]
      simp only [Option.bind_some]
      congr 1
      rw [Bool.eq_iff_iff]; simp; omega
    · rw [if_neg h2]; congr 1; symm; simp; omega
  · rw [if_neg h1]; congr 1; symm; simp; omega

theorem impl_isFrac_eq (a b : Int) (k : Nat) (hk : 9223372036854775808 ≤ k) : impl_IsFraction.f k a b = some (isFr a b) := by
  unfold impl_IsFraction.f isFr
  rw [impl_in, impl_up _ _ (by omega) (by omega)]
  simp only [Option.bind_some, decide_eq_true_eq]
  by_cases h1 : 1 ≤ b ∧ b ≤ 1000000000
  · rw [if_pos h1]
    by_cases h2 : -1000000000 ≤ a ∧ a ≤ 1000000000
    · rw [if_pos h2, impl_common_eq a b k hk (by omega) (by omega)]
      simp only [Option.bind_some]
      congr 1
      rw [Bool.eq_iff_iff]; simp; omega
    · rw [if_neg h2]; congr 1; symm; simp; omega
  · rw [if_neg h1]; congr 1; symm; simp; omega

/-- The divisor with the sign of the denominator; numerator and denominator in lowest terms. -/
def sgd (a b : Int) : Int := if b < 0 then -(Int.gcd a b : Int) else (Int.gcd a b : Int)
def rnum (a b : Int) : Int := Int.tdiv a (sgd a b)
def rden (a b : Int) : Int := Int.tdiv b (sgd a b)
/-- What sums, products and quotients come to: the fraction, and whether it fits. -/
def okFr (a b : Int) : Bool := isFr (rnum a b) (rden a b)

theorem gcd_pos {a b : Int} (h : b ≠ 0) : 0 < (Int.gcd a b : Int) := by
  have : Int.gcd a b ≠ 0 := by rw [Ne, Int.gcd_eq_zero_iff]; omega
  omega
theorem gcd_le {a b : Int} (h : b ≠ 0) : (Int.gcd a b : Int) ≤ b.natAbs := by
  have : Int.gcd a b ≤ b.natAbs := Nat.gcd_le_right _ (by omega)
  omega
theorem sgd_ne {a b : Int} (h : b ≠ 0) : sgd a b ≠ 0 := by
  unfold sgd; have := gcd_pos (a := a) h; split <;> omega
theorem tdiv_abs (a d : Int) : (Int.tdiv a d).natAbs ≤ a.natAbs := by
  rw [Int.natAbs_tdiv]; exact Nat.div_le_self _ _
theorem rnum_abs (a b : Int) : (rnum a b).natAbs ≤ a.natAbs := tdiv_abs _ _
theorem rden_abs (a b : Int) : (rden a b).natAbs ≤ b.natAbs := tdiv_abs _ _

theorem spec_frac_eq (a b : Int) (k : Nat) (hk : 9223372036854775808 ≤ k) (ha : a.natAbs ≤ 9223372036854775807) (hb : b.natAbs ≤ 9223372036854775807) :
    spec_l01Frac.f k a b = some (if b = 0 then (0, 0, false) else if okFr a b then (rnum a b, rden a b, true) else (0, 0, false)) := by
  unfold spec_l01Frac.f
  by_cases h : b = 0
  · rw [if_pos h, if_pos h]
  · have hg := gcd_pos (a := a) h
    have hl := gcd_le (a := a) h
    have h1 := rnum_abs a b
    have h2 := rden_abs a b
    rw [if_neg h, if_neg h, spec_gcd_eq a b k hk ha hb]
    simp only [Option.bind_some]
    have e1 : ∀ s, s = sgd a b → wrap64 (Int.tdiv a s) = rnum a b := fun s hs => by rw [hs]; exact wrap_id (x := rnum a b) (by omega) (by omega)
    have e2 : ∀ s, s = sgd a b → wrap64 (Int.tdiv b s) = rden a b := fun s hs => by rw [hs]; exact wrap_id (x := rden a b) (by omega) (by omega)
    by_cases hn : b < 0
    · have hs : wrap64 (-(Int.gcd a b : Int)) = sgd a b := by unfold sgd; rw [if_pos hn, wrap_id (by omega) (by omega)]
      rw [if_pos hn, if_neg (by rw [hs]; exact sgd_ne h), e1 _ hs, e2 _ hs, spec_isFrac_eq _ _ k hk]
      simp only [Option.bind_some, okFr]
      split <;> (rename_i hh; simp [hh])
    · have hs : (Int.gcd a b : Int) = sgd a b := by unfold sgd; rw [if_neg hn]
      rw [if_neg hn, if_neg (by omega), e1 _ hs, e2 _ hs, spec_isFrac_eq _ _ k hk]
      simp only [Option.bind_some, okFr]
      split <;> (rename_i hh; simp [hh])

theorem impl_reduced_eq (a b : Int) (k : Nat) (hk : 9223372036854775808 ≤ k) (h : b ≠ 0) (ha : a.natAbs ≤ 9223372036854775807) (hb : b.natAbs ≤ 9223372036854775807) :
    impl_reduced.f k a b = some (rnum a b, rden a b, okFr a b) := by
  unfold impl_reduced.f
  have hg := gcd_pos (a := a) h
  have hl := gcd_le (a := a) h
  have h1 := rnum_abs a b
  have h2 := rden_abs a b
  rw [impl_common_eq a b k hk ha hb]
  simp only [Option.bind_some]
  have e1 : ∀ s, s = sgd a b → wrap64 (Int.tdiv a s) = rnum a b := fun s hs => by rw [hs]; exact wrap_id (x := rnum a b) (by omega) (by omega)
  have e2 : ∀ s, s = sgd a b → wrap64 (Int.tdiv b s) = rden a b := fun s hs => by rw [hs]; exact wrap_id (x := rden a b) (by omega) (by omega)
  by_cases hn : b < 0
  · have hs : wrap64 (-(Int.gcd a b : Int)) = sgd a b := by unfold sgd; rw [if_pos hn, wrap_id (by omega) (by omega)]
    rw [if_pos hn, if_neg (by rw [hs]; exact sgd_ne h), e1 _ hs, e2 _ hs, impl_isFrac_eq _ _ k hk]
    rfl
  · have hs : (Int.gcd a b : Int) = sgd a b := by unfold sgd; rw [if_neg hn]
    rw [if_neg hn, if_neg (by omega), e1 _ hs, e2 _ hs, impl_isFrac_eq _ _ k hk]
    rfl

end Go.Proofs.Ytmjomedmpokbcaa.Pure
