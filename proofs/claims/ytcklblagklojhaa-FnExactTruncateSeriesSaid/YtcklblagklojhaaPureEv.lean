/- Rows of terms: what the law's helpers tell of them. Conditions: none. -/
import Derived.Test.YtcklblagklojhaaT0
import Derived.Test.YtcklblagklojhaaT1
namespace Go.Proofs.Ytcklblagklojhaa.Pure
open Go.RowKit Go.Proofs.Ytcklblagklojhaa.T Go.Proofs.YtcklblagklojhaaW.PrintWords Go.Proofs.YtcklblagklojhaaW.PrintLast
set_option linter.unusedVariables false
set_option linter.unusedSimpArgs false
namespace TS
theorem wrap_id {x : Int} (h0 : -9223372036854775808 ≤ x) (h1 : x ≤ 9223372036854775807) : wrap64 x = x := by
  unfold wrap64; omega
/-- From a number of rounds on, this is told. -/
def Ev {α : Type} (f : Nat → Option α) (v : α) : Prop := ∃ K, ∀ k, K ≤ k → f k = some v
theorem Ev.of_mono {α : Type} {f : Nat → Option α} {v : α} (hm : ∀ k, LeO (f k) (f (k + 1))) (K : Nat) (h : f K = some v) : Ev f v :=
  ⟨K, fun k hk => by
    obtain ⟨j, rfl⟩ : ∃ j, k = K + j := ⟨k - K, by omega⟩
    clear hk
    induction j with
    | zero => exact h
    | succ j ih => exact hm _ _ ih⟩
theorem Ev.same {α : Type} {f : Nat → Option α} {u v : α} (h : Ev f u) (h' : Ev f v) : u = v := by
  obtain ⟨K, h⟩ := h
  obtain ⟨L, h'⟩ := h'
  exact Option.some.inj ((h (K + L) (by omega)).symm.trans (h' (K + L) (by omega)))
theorem Ev.const {α : Type} (v : α) : Ev (fun _ => some v) v := ⟨0, fun _ _ => rfl⟩
theorem Ev.bind {α β : Type} {f : Nat → Option α} {g : Nat → α → Option β} {a : α} {b : β} (hf : Ev f a) (hg : Ev (fun k => g k a) b) : Ev (fun k => (f k).bind (g k)) b := by
  obtain ⟨K, hf⟩ := hf
  obtain ⟨L, hg⟩ := hg
  exact ⟨K + L, fun k hk => by show (f k).bind (g k) = some b; rw [hf k (by omega)]; exact hg k (by omega)⟩
theorem Ev.succ {α : Type} {f : Nat → Option α} {v : α} (h : Ev (fun k => f (k + 1)) v) : Ev f v := by
  obtain ⟨K, h⟩ := h
  exact ⟨K + 1, fun k hk => by
    obtain ⟨j, rfl⟩ : ∃ j, k = j + 1 := ⟨k - 1, by omega⟩
    exact h j (by omega)⟩
theorem Ev.pick {α : Type} {f : Nat → Option α} {v : α} (h : Ev f v) : ∃ k, f k = some v := let ⟨K, h⟩ := h; ⟨K, h K (Nat.le_refl _)⟩
theorem Ev.at {α : Type} {f : Nat → Option α} {v : α} (h : ∀ k, f k = some v) : Ev f v := ⟨0, fun k _ => h k⟩
theorem eq_l (l : List S77) (hl : l.length ≤ 2000000) (m : Nat) : ∀ (i k : Nat), l.length - i ≤ m → i ≤ l.length → m < k → laws_eqTermS.l0 k l l (i : Int) = some true := by
  induction m with
  | zero =>
    intro i k h1 h2 hk
    obtain ⟨k, rfl⟩ : ∃ m, k = m + 1 := ⟨k - 1, by omega⟩
    simp only [laws_eqTermS.l0]; rw [if_neg (by omega)]
  | succ m ih =>
    intro i k h1 h2 hk
    obtain ⟨k, rfl⟩ : ∃ m, k = m + 1 := ⟨k - 1, by omega⟩
    by_cases hi : i < l.length
    · simp only [laws_eqTermS.l0]
      rw [if_pos (by omega), if_pos (by omega), if_pos (by omega)]
      simp only [laws_eqTerm.f, laws_eqFraction.f, if_true, Option.bind_some]
      rw [wrap_id (by omega) (by omega)]
      exact ih (i + 1) k (by omega) (by omega) (by omega)
    · simp only [laws_eqTermS.l0]; rw [if_neg (by omega)]
theorem eq_s (a b : Int) (l : List S77) (hl : l.length ≤ 2000000) : Ev (fun k => laws_eqSeries.f k a b l a b l) true := ⟨l.length + 1, fun k hk => by
  simp only [laws_eqSeries.f, laws_eqTermS.f, if_true]
  have := eq_l l hl l.length 0 k (by omega) (by omega) (by omega)
  rw [show (0 : Int) = ((0 : Nat) : Int) from rfl, this]
  rfl⟩
theorem eq_fr (a b : Int) : laws_eqFraction.f a b a b = some true := by simp [laws_eqFraction.f]
theorem take_set (l : List S77) (i : Nat) (t : S77) (h : i < l.length) : (l.set i t).take (i + 1) = l.take i ++ [t] := by
  rw [List.take_add_one, List.getElem?_set_self h, List.take_set_of_le (Nat.le_refl _)]; rfl
end TS
end Go.Proofs.Ytcklblagklojhaa.Pure
