/- Which sizes and rows of terms make a series. Conditions: none. -/
import Derived.Test.YtcklblagklojhaaHSerMath
namespace Go.Proofs.Ytcklblagklojhaa.M
/-- The sizes that a series may have. -/
def lev (d n : Int) : Bool := inR d 1 3 && (inR n 1 5 && (decide (d < 3) || decide (n ≤ 4)))
theorem lev_iff {d n : Int} : lev d n = true ↔ (1 ≤ d ∧ d ≤ 3) ∧ (1 ≤ n ∧ n ≤ 5) ∧ (d < 3 ∨ n ≤ 4) := by simp [lev, inR]
def isS (d n : Int) (l : Ts) : Bool := lev d n && isTs d.toNat n.toNat l
/-- No row and no word is greater than what a law lets in. -/
def bnd (l : Ts) : Bool := decide (l.length ≤ 1048576) && l.all fun t => decide (t.1.size ≤ 1048576)
theorem bnd_iff {l : Ts} : bnd l = true ↔ l.length ≤ 1048576 ∧ ∀ t ∈ l, t.1.size ≤ 1048576 := by simp [bnd]
theorem isS_bnd {d n : Int} {l : Ts} (hb : l.length ≤ 1048576) (h : isS d n l = true) : bnd l = true := by
  rw [isS, Bool.and_eq_true] at h
  refine bnd_iff.2 ⟨hb, fun t ht => ?_⟩
  have := (isTm_fr ((isTs_iff.1 h.2).1 t ht)).2.2.2
  have := (lev_iff.1 h.1).2.1
  omega
end Go.Proofs.Ytcklblagklojhaa.M
