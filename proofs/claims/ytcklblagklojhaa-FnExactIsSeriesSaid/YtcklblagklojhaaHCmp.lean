/- What comparing two strings returns: proved by walking the library's code. Conditions: none. -/
import Derived.Test.YtcklblagklojhaaHBase
import Derived.Lib.Bytealg
import Derived.Lib.Walk
namespace Go.Proofs.Ytcklblagklojhaa.H
open Go.RowKit Go.Proofs.YtcklblagklojhaaW.PrintWords
set_option linter.unusedVariables false
set_option maxRecDepth 100000
theorem bytealgCompare (a b : ByteArray) (w : World) : Calls Try.prog 210 #[.string a, .string b] w fun e w' => e = .returned (.int .i64 (Lib.compareBytes a.data.toList b.data.toList)) ∧ w' = w := by
  go_enter Try.func210, Try.ntmps210
  go_wp2
  rw [run_callFunc_extern Try.func213 (by kernel_rfl) (by kernel_rfl) (by kernel_rfl) (e := Extern.BytealgCompare.compare) (by kernel_rfl), Lib.run_compareString]
  simp only [Result.andThen]
  rw [Oper.upon_value]
  go_wp2
  go_ret
  exact ⟨rfl, rfl⟩
theorem stringsCompare (a b : ByteArray) (w : World) : Calls Try.prog 208 #[.string a, .string b] w fun e w' => e = .returned (.int .i64 (Lib.compareBytes a.data.toList b.data.toList)) ∧ ∃ n, w' = w.drewN n := by
  go_enter Try.func208, Try.ntmps208
  go_wp2_with (first | (go_at_call 210; refine (bytealgCompare _ _ _).mono ?_; rintro e w' ⟨rfl, rfl⟩))
  go_ret
  exact ⟨rfl, by first | exact ⟨_, rfl⟩ | exact drawn_none _⟩
end Go.Proofs.Ytcklblagklojhaa.H
