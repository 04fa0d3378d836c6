/- Plain facts on whole numbers and fractions: greatest common divisors, lowest terms, what fits. Nothing of the program. Conditions: none. -/
import Derived.WalkKit
namespace Go.Proofs.Ytcklblagklojhaa.M
set_option linter.unusedVariables false
set_option linter.unusedSimpArgs false

theorem gcd_tmod (a b : Int) : Int.gcd b (a.tmod b) = Int.gcd a b := by
  unfold Int.gcd
  rw [Int.natAbs_tmod, Nat.gcd_comm, ← Nat.gcd_rec, Nat.gcd_comm]
theorem tmod_lt {a b : Int} (h : b ≠ 0) : (a.tmod b).natAbs < b.natAbs := by
  rw [Int.natAbs_tmod]; exact Nat.mod_lt _ (by omega)
theorem tmod_le (a b : Int) : (a.tmod b).natAbs ≤ a.natAbs := by
  rw [Int.natAbs_tmod]; exact Nat.mod_le _ _

/-- b ≤ a ≤ c, as one Bool. -/
def inR (a b c : Int) : Bool := decide (b ≤ a ∧ a ≤ c)
theorem inR_iff (a b c : Int) : inR a b c = true ↔ b ≤ a ∧ a ≤ c := by simp [inR]
theorem inR_no (a b c : Int) : inR a b c = false ↔ ¬ (b ≤ a ∧ a ≤ c) := by simp [inR]

/-- a / b is a fraction. -/
def isFr (a b : Int) : Bool := inR b 1 1000000000 && (inR a (-1000000000) 1000000000 && decide ((Int.gcd a b : Int) = 1))
theorem isFr_iff (a b : Int) : isFr a b = true ↔ 1 ≤ b ∧ b ≤ 1000000000 ∧ -1000000000 ≤ a ∧ a ≤ 1000000000 ∧ Int.gcd a b = 1 := by
  unfold isFr
  simp only [Bool.and_eq_true, inR_iff, decide_eq_true_eq]
  omega

/-- The divisor with the sign of the denominator; numerator and denominator in lowest terms. -/
def sgd (a b : Int) : Int := if b < 0 then -(Int.gcd a b : Int) else (Int.gcd a b : Int)
def rnum (a b : Int) : Int := Int.tdiv a (sgd a b)
def rden (a b : Int) : Int := Int.tdiv b (sgd a b)
/-- a / b in lowest terms fits. -/
def okN (a b : Int) : Bool := isFr (rnum a b) (rden a b)
/-- a / b in lowest terms, if it fits. -/
def frac (a b : Int) : Option (Int × Int) := if b ≠ 0 ∧ okN a b = true then some (rnum a b, rden a b) else none

theorem gcd_pos {a b : Int} (h : b ≠ 0) : 0 < (Int.gcd a b : Int) := by
  have : Int.gcd a b ≠ 0 := by rw [Ne, Int.gcd_eq_zero_iff]; omega
  omega
theorem gcd_le {a b : Int} (h : b ≠ 0) : (Int.gcd a b : Int) ≤ b.natAbs := by
  have : Int.gcd a b ≤ b.natAbs := Nat.gcd_le_right _ (by omega)
  omega
theorem sgd_ne {a b : Int} (h : b ≠ 0) : sgd a b ≠ 0 := by
  unfold sgd; have := gcd_pos (a := a) h; split <;> omega
theorem sgd_abs {a b : Int} (h : b ≠ 0) : (sgd a b).natAbs ≤ b.natAbs := by
  unfold sgd; have := gcd_le (a := a) h; have := gcd_pos (a := a) h; split <;> omega
theorem tdiv_abs (a d : Int) : (Int.tdiv a d).natAbs ≤ a.natAbs := by
  rw [Int.natAbs_tdiv]; exact Nat.div_le_self _ _
theorem rnum_abs (a b : Int) : (rnum a b).natAbs ≤ a.natAbs := tdiv_abs _ _
theorem rden_abs (a b : Int) : (rden a b).natAbs ≤ b.natAbs := tdiv_abs _ _

abbrev Fr := Int × Int
/-- A pair that is a fraction. -/
def fr (a : Fr) : Bool := isFr a.1 a.2
/-- Both parts are at most 10^9 in size. -/
def small (a : Fr) : Prop := -1000000000 ≤ a.1 ∧ a.1 ≤ 1000000000 ∧ -1000000000 ≤ a.2 ∧ a.2 ≤ 1000000000
theorem fr_small {a : Fr} (h : fr a = true) : small a := by
  have := (isFr_iff _ _).1 h; unfold small; omega
theorem fr_den {a : Fr} (h : fr a = true) : 1 ≤ a.2 := ((isFr_iff _ _).1 h).1
def add (a b : Fr) : Option Fr := frac (a.1 * b.2 + b.1 * a.2) (a.2 * b.2)
def mul (a b : Fr) : Option Fr := frac (a.1 * b.1) (a.2 * b.2)
def div (a b : Fr) : Option Fr := frac (a.1 * b.2) (a.2 * b.1)
theorem mul_abs {a b : Int} {m n : Nat} (ha : a.natAbs ≤ m) (hb : b.natAbs ≤ n) : (a * b).natAbs ≤ m * n := by
  rw [Int.natAbs_mul]; exact Nat.mul_le_mul ha hb
theorem small_mul {a b : Int} (ha : -1000000000 ≤ a ∧ a ≤ 1000000000) (hb : -1000000000 ≤ b ∧ b ≤ 1000000000) : -1000000000000000000 ≤ a * b ∧ a * b ≤ 1000000000000000000 := by
  have := mul_abs (a := a) (b := b) (m := 1000000000) (n := 1000000000) (by omega) (by omega)
  omega
theorem frac_fr {a b : Int} {c : Fr} (h : frac a b = some c) : fr c = true := by
  unfold frac at h
  split at h
  · rename_i hh; injection h with h; subst h; exact hh.2
  · cases h
theorem frac_ok {a b : Int} (h : b ≠ 0) (hk : okN a b = true) : frac a b = some (rnum a b, rden a b) := by unfold frac; rw [if_pos ⟨h, hk⟩]
theorem frac_bad {a b : Int} (hk : okN a b = false) : frac a b = none := by unfold frac; rw [if_neg (by simp [hk])]
theorem frac_zero (a : Int) : frac a 0 = none := by unfold frac; rw [if_neg (by simp)]
theorem frac_abs {a b : Int} {c : Fr} (h : frac a b = some c) : small c := fr_small (frac_fr h)
/-- What sums, products and quotients of fractions are told as: the fraction, or the code 3. -/
def told : Option Fr → Fr × Int
  | some c => (c, 0)
  | none => ((0, 0), 3)
def mulF (a b : Fr) : Fr × Int := if fr a = true then if fr b = true then told (mul a b) else ((0, 0), 1) else ((0, 0), 1)
def addF (a b : Fr) : Fr × Int := if fr a = true then if fr b = true then told (add a b) else ((0, 0), 1) else ((0, 0), 1)
def divF (a b : Fr) : Fr × Int := if fr a = true then if fr b = true then (if b.1 = 0 then ((0, 0), 5) else told (div a b)) else ((0, 0), 1) else ((0, 0), 1)
/-- What l01Frac returns, as values. -/
def sfrac : Option Fr → Fr × Bool
  | some c => (c, true)
  | none => ((0, 0), false)
theorem sfrac_none : sfrac none = ((0, 0), false) := rfl
theorem sfrac_some (c : Fr) : sfrac (some c) = (c, true) := rfl
theorem told_sfrac (o : Option Fr) : told (if (sfrac o).2 = true then some ((sfrac o).1.1, (sfrac o).1.2) else none) = told o := by cases o <;> rfl
theorem wrap_id {x : Int} (h0 : -9223372036854775808 ≤ x) (h1 : x ≤ 9223372036854775807) : Go.RowKit.wrap64 x = x := by
  unfold Go.RowKit.wrap64; omega
end Go.Proofs.Ytcklblagklojhaa.M
