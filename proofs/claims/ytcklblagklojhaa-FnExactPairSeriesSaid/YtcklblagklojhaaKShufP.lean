/- Shuffles, pairings, values at shuffles: of rows and of tables that go with them. Conditions: those of series. -/
import Derived.Test.YtcklblagklojhaaHShufMath
import Derived.Test.YtcklblagklojhaaKTab
namespace Go.Proofs.Ytcklblagklojhaa.M
set_option linter.unusedVariables false
theorem hsh_le (v w u : List UInt8) : hsh v w u ≤ sh v w u := by
  cases u with
  | nil => unfold hsh; split <;> first | omega | contradiction
  | cons c u => rw [sh_halves (v := v) (w := w) (u := c :: u) (by simp)]; omega
/-- The number for a shuffle, or a half shuffle. -/
def numS (half : Bool) (v w u : ByteArray) : Nat := if half = true then hsh (bl v) (bl w) (bl u) else sh (bl v) (bl w) (bl u)
theorem numS_le (half : Bool) (v w u : ByteArray) : numS half v w u ≤ sh (bl v) (bl w) (bl u) := by
  unfold numS; split
  · exact hsh_le _ _ _
  · exact Nat.le_refl _
def stepW (half : Bool) (v w : ByteArray) (p : Fr) (z : Ts) (u : ByteArray) : Option Ts := if numS half v w u = 0 then some z else (mul p ((numS half v w u : Nat), 1)).bind fun q => put z u q
def stepB (d n : Nat) (half : Bool) (a : Tm) (z : Ts) (b : Tm) : Option Ts := (mul a.2 b.2).bind fun p => if n < a.1.size + b.1.size then some z else (wordsN d (a.1.size + b.1.size)).foldlM (stepW half a.1 b.1 p) z
def stepA (d n : Nat) (half : Bool) (y : Ts) (z : Ts) (a : Tm) : Option Ts := if half = true ∧ a.1.size = 0 then some z else y.foldlM (stepB d n half a) z
/-- The shuffle, or half shuffle. -/
def shS (d n : Nat) (half : Bool) (x y : Ts) : Option Ts := x.foldlM (stepA d n half y) []
/-- The words of a shuffle. -/
def shW (d : Nat) (v w : ByteArray) : List ByteArray := (wordsN d (v.size + w.size)).filter fun u => decide (0 < sh (bl v) (bl w) (bl u))
theorem foldM_filter {α β : Type} (g : β → α → Option β) (p : α → Bool) : ∀ (l : List α) (b : β), (∀ a ∈ l, p a = false → ∀ y, g y a = some y) → (l.filter p).foldlM g b = l.foldlM g b
  | [], b, _ => rfl
  | a :: l, b, h => by
    have ih := fun b => foldM_filter g p l b fun x hx => h x (List.mem_cons_of_mem _ hx)
    rw [List.filter_cons, List.foldlM_cons]
    by_cases hp : p a = true
    · rw [if_pos hp, List.foldlM_cons]
      congr 1
      funext y
      exact ih y
    · have hp' : p a = false := by simpa using hp
      rw [if_neg hp, h a List.mem_cons_self hp' b, ih]
      rfl
theorem shW_fold (d : Nat) (half : Bool) (v w : ByteArray) (p : Fr) (z : Ts) : (shW d v w).foldlM (stepW half v w p) z = (wordsN d (v.size + w.size)).foldlM (stepW half v w p) z :=
  foldM_filter _ _ _ _ fun u _ h y => by
    have h1 := numS_le half v w u
    have h2 : ¬ 0 < sh (bl v) (bl w) (bl u) := of_decide_eq_false h
    unfold stepW
    rw [if_pos (by omega)]
/-! ### sums at one word -/
/-- The sum of fractions that are told. -/
def accS (U : List (Option Fr)) : Option Fr := U.foldlM (fun s p => p.bind (add s)) (0, 1)
theorem acc_adds (s : ByteArray) : ∀ (U : List (Option Fr)) (f : ByteArray → Fr) (c : Fr), f s = c →
    (U.foldlM (fun s p => p.bind (add s)) c = none ∧ (addsT (f, false) (U.map fun p => (s, p))).2 = true) ∨ ∃ c', U.foldlM (fun s p => p.bind (add s)) c = some c' ∧ (addsT (f, false) (U.map fun p => (s, p))).2 = false ∧ (addsT (f, false) (U.map fun p => (s, p))).1 s = c'
  | [], f, c, h => .inr ⟨c, rfl, rfl, h⟩
  | p :: U, f, c, h => by
    rw [List.foldlM_cons, List.map_cons]
    cases p with
    | none => exact .inl ⟨rfl, addsT_bad (F := addT (f, false) (s, none)) (by simp [addT])⟩
    | some a =>
      show ((add c a >>= fun y => List.foldlM (fun s p => p.bind (add s)) y U) = none ∧ (addsT (addT (f, false) (s, some a)) _).2 = true) ∨ ∃ c', (add c a >>= fun y => List.foldlM (fun s p => p.bind (add s)) y U) = some c' ∧ (addsT (addT (f, false) (s, some a)) _).2 = false ∧ (addsT (addT (f, false) (s, some a)) _).1 s = c'
      cases ha : add c a with
      | none => exact .inl ⟨rfl, addsT_bad (by simp [addT, orZ, h, ha])⟩
      | some c1 =>
        have e : addT (f, false) (s, some a) = (upd f s c1, false) := by simp [addT, orZ, h, ha]
        rw [e]
        exact acc_adds s U (upd f s c1) c1 (by simp [upd])
/-- The pairing. -/
def pairU (x y : Ts) : List (Option Fr) := x.filterMap fun t => if (co y t.1).1 = 0 then none else some (mul t.2 (co y t.1))
def pairS (x y : Ts) : Option Fr := accS (pairU x y)
/-- The value at a shuffle. -/
def atU (d : Nat) (x : Ts) (v w : ByteArray) : List (Option Fr) := (wordsN d (v.size + w.size)).filterMap fun u => if sh (bl v) (bl w) (bl u) = 0 ∨ (co x u).1 = 0 then none else some (mul (co x u) ((sh (bl v) (bl w) (bl u) : Nat), 1))
def atS (d : Nat) (x : Ts) (v w : ByteArray) : Option Fr := accS (atU d x v w)
/-! ### a fraction times a whole number -/
theorem sgd_scale {p q g : Int} (hg : 0 < g) : sgd (p * g) (q * g) = sgd p q * g := by
  have h1 : (Int.gcd (p * g) (q * g) : Int) = (Int.gcd p q : Int) * g := by
    rw [Int.gcd_mul_right, Int.natCast_mul]
    congr 1
    omega
  unfold sgd
  rw [h1]
  by_cases h : q < 0
  · rw [if_pos h, if_pos (Int.mul_neg_of_neg_of_pos h hg), Int.neg_mul]
  · rw [if_neg h, if_neg (by have := Int.mul_nonneg (a := q) (b := g) (by omega) (by omega); omega)]
theorem frac_scale {p q g : Int} (hg : 0 < g) : frac (p * g) (q * g) = frac p q := by
  have h1 : rnum (p * g) (q * g) = rnum p q := by unfold rnum; rw [sgd_scale hg, Int.mul_tdiv_mul_of_pos_left _ _ hg]
  have h2 : rden (p * g) (q * g) = rden p q := by unfold rden; rw [sgd_scale hg, Int.mul_tdiv_mul_of_pos_left _ _ hg]
  unfold frac okN
  rw [h1, h2]
  by_cases h : q = 0
  · subst h; simp
  · have : q * g ≠ 0 := Int.mul_ne_zero h (by omega)
    simp [h, this]
theorem mul_whole {a : Fr} {n g : Int} (hg : 0 < g) (h1 : g ∣ n) (h2 : g ∣ a.2) : frac (a.1 * Int.tdiv n g) (Int.tdiv a.2 g) = mul a (n, 1) := by
  obtain ⟨x, rfl⟩ := h1
  obtain ⟨y, hy⟩ := h2
  rw [← frac_scale hg, Int.mul_tdiv_cancel_left _ (by omega), hy, Int.mul_tdiv_cancel_left _ (by omega)]
  unfold mul
  congr 1
  · rw [Int.mul_assoc, Int.mul_comm x g]
  · show y * g = a.2 * 1
    rw [hy, Int.mul_comm, Int.mul_one]
theorem mul_whole0 {a : Fr} {n : Int} (ha : fr a = true) (h : n = 0 ∨ a.1 = 0) : mul a (n, 1) = some (0, 1) := by
  unfold mul
  have : a.1 * n = 0 := by rcases h with h | h <;> simp [h]
  show frac (a.1 * n) (a.2 * 1) = _
  rw [this, Int.mul_one]
  exact frac_zero_num (by have := fr_den ha; omega)
end Go.Proofs.Ytcklblagklojhaa.M
