/- Plain facts and contracts of functions that the law's walk uses. Conditions: those that stand in each statement. -/
import Derived.Test.YtibjkjhpfmmjoaaRvG1
namespace Go.Proofs.Ytibjkjhpfmmjoaa.H
open Go.RowKit Go.ChangeShapes Go.ChangeAt Go.Joins Go.Deep Go.ChangeMaps Go.Proofs.YtibjkjhpfmmjoaaW.PrintWords Go.Proofs.YtibjkjhpfmmjoaaW.PrintLast Go.Proofs.YtibjkjhpfmmjoaaW.PrintMore Go.Proofs.Ytibjkjhpfmmjoaa.M
set_option linter.unusedVariables false
set_option maxRecDepth 100000
theorem opensQ_byte {P : Program} {t : TypeId} (ht : P.underlying t = some (.int .u8)) : OpensQ P (Kd.int .u8) t (fun x => 0 ≤ x ∧ x < 256) := fun H enc w fuel cs x h => by
  obtain ⟨n, hn, _, hw⟩ := DataW.trod_int ht h
  refine ⟨n, ?_, hn⟩
  simp only [Lit.wf, Bool.and_eq_true, decide_eq_true_eq] at hw
  have h1 : IntKind.u8.min = 0 := by decide
  have h2 : IntKind.u8.max = 255 := by decide
  rw [h1, h2] at hw
  omega
/-- An argument of bytes. -/
theorem openBytes {H : Type} {enc : TypeId × Value → H} {W : World} {r : Reach} {b0 : Nat} {v : Value} {dd : DataW H} {p : List MemPlace} (hval : Value.okWide Try.prog W r b0 22 v) (h : DataW.Trod enc Try.prog W 0 (fun _ => true) true 22 v dd p) :
    ∃ A c, ∃ l : List Int, v = .slice A l.length c ∧ (∀ x ∈ l, 0 ≤ x ∧ x < 256) ∧ (Kd.int .u8).C W A l.length l := by
  obtain ⟨A, n, c, rfl⟩ := Go.WideShapes.okWide_slice Try.underlying22 hval
  obtain ⟨fuel, hf⟩ := h
  have ho : OpensQ Try.prog (Kd.slice 5 (Kd.int .u8)) 22 (fun l => ∀ a ∈ l, 0 ≤ a ∧ a < 256) := opensQ_slice Try.underlying22 (by kernel_rfl) (opensQ_byte Try.underlying5)
  obtain ⟨l, hq, A', c', e1, hl, hr⟩ := ho _ _ _ _ _ _ hf
  have e2 : Value.slice A n c = .slice A' l.length c' := by simpa [Value.cells] using e1
  injection e2 with e3 e4 e5
  subst e3 e4 e5
  exact ⟨A, c, l, rfl, hq, hr⟩
end Go.Proofs.Ytibjkjhpfmmjoaa.H


