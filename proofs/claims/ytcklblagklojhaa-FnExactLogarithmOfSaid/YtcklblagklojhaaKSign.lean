/- Signs. Conditions: the bounds that stand in each statement. -/
import Derived.Test.YtcklblagklojhaaKBasic
namespace Go.Proofs.Ytcklblagklojhaa.M
/-- The sign of a length. -/
def sgI (m : Nat) : Int := if m % 2 = 1 then -1 else 1
end Go.Proofs.Ytcklblagklojhaa.M
namespace Go.Proofs.Ytcklblagklojhaa.H
open Go.RowKit Go.Proofs.YtcklblagklojhaaW.PrintWords Go.Proofs.YtcklblagklojhaaW.PrintLast Go.Proofs.YtcklblagklojhaaW.PrintMore Go.Proofs.Ytcklblagklojhaa.M
attribute [local go_sem] max2_int min2_int max_two min_two max_three min_three max_four min_four
theorem implSign (m : Nat) (hm : m ≤ 6) (w : World) : Calls Try.prog 169 #[.int .i64 (m : Int)] w fun e w' => e = .returned (.int .i64 (sgI m)) ∧ Below w.heap.size w w' := by
  have HS := Aside0.mk (Sep.refl w)
  have h : m = 0 ∨ m = 1 ∨ m = 2 ∨ m = 3 ∨ m = 4 ∨ m = 5 ∨ m = 6 := by omega
  rcases h with rfl | rfl | rfl | rfl | rfl | rfl | rfl
  all_goals
    go_enter Try.func169, Try.ntmps169
    go_wp2
    go_ret
    exact ⟨rfl, Below.refl _ _⟩
end Go.Proofs.Ytcklblagklojhaa.H

