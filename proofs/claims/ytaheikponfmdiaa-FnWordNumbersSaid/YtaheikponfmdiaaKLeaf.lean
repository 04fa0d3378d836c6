/- Words, sizes and their order: what the small functions return. Conditions: the bounds that stand in each statement. -/
import Derived.Test.YtaheikponfmdiaaKSep
import Derived.Test.YtaheikponfmdiaaKFrac
import Derived.Lib.IndexBytes
namespace Go.Proofs.Ytaheikponfmdiaa.M
theorem isWd_iff {d : Nat} {s : ByteArray} : isWd d s = true ↔ ∀ j, (h : j < s.size) → 48 ≤ s[j].toNat ∧ s[j].toNat < 48 + d := by
  unfold isWd isWL bl
  rw [List.all_eq_true]
  constructor
  · intro h j hj
    have := h s[j] (by rw [show s[j] = s.data.toList[j]'(by simpa using hj) from rfl]; exact List.getElem_mem _)
    simpa using this
  · intro h c hc
    obtain ⟨j, hj, rfl⟩ := List.getElem_of_mem hc
    have := h j (by simpa using hj)
    exact decide_eq_true this
theorem isWd_no {d : Nat} {s : ByteArray} {j : Nat} (hj : j < s.size) (h : ¬ (48 ≤ (s[j].toNat : Int) ∧ (s[j].toNat : Int) < 48 + d)) : isWd d s = false := by
  rw [← Bool.not_eq_true, isWd_iff]
  intro hh
  have := hh j hj
  omega
end Go.Proofs.Ytaheikponfmdiaa.M
namespace Go.Proofs.Ytaheikponfmdiaa.H
open Go.RowKit Go.Proofs.YtaheikponfmdiaaW.PrintWords Go.Proofs.YtaheikponfmdiaaW.PrintLast Go.Proofs.YtaheikponfmdiaaW.PrintMore Go.Proofs.Ytaheikponfmdiaa.M
attribute [local go_sem] max2_int min2_int max_two min_two max_three min_three max_four min_four
set_option linter.unusedVariables false
set_option linter.unusedSimpArgs false
theorem u8_sub {x : Int} (h0 : 48 ≤ x) (h1 : x < 256) : IntKind.u8.wrap (x - 48) = x - 48 := IntWalk.u8_in _ ⟨by omega, by omega⟩
set_option maxRecDepth 100000 in
set_option maxHeartbeats 4000000 in
theorem specWord (d : Nat) (hd : d ≤ 9) (s : ByteArray) (hs : s.size ≤ 9223372036854775807) (w : World) :
    Calls Try.prog 81 #[.int .i64 (d : Int), .string s] w fun e w' => e = .returned (.bool (isWd d s)) ∧ Below w.heap.size w w' := by
  go_enter Try.func81, Try.ntmps81
  go_wp2
  go_loop [5] (fun i => ∃ k : Nat, k ≤ s.size ∧ i = .int .i64 (k : Int) ∧ Hid (∀ j, (h : j < s.size) → j < k → 48 ≤ s[j].toNat ∧ s[j].toNat < 48 + d)) (fun i => s.size - (intOf i).toNat)
  case atStart => exact ⟨0, by omega, rfl, fun j _ hj => by omega⟩
  case round =>
    obtain ⟨k, hk, rfl, HY⟩ := hrel
    by_cases hlt : k < s.size
    · obtain ⟨c, hc⟩ : ∃ c : Int, ∀ h : k < s.size, ((s[k]'h).toNat : Int) = c := ⟨((s[k]'hlt).toNat : Int), fun _ => rfl⟩
      have hc0 : 0 ≤ c := by rw [← hc hlt]; omega
      have hc1 : c < 256 := by have := (s[k]'hlt).toNat_lt; rw [← hc hlt]; omega
      have HC := Lib.hid (hc hlt)
      by_cases h1 : c < 48
      · go_wp2
        go_ret
        exact ⟨ret_bool (isWd_no hlt (by rw [HC.out]; omega)).symm, Below.refl _ _⟩
      · have hu := u8_sub (x := c) (by omega) hc1
        by_cases h2 : c - 48 ≥ d
        · go_wp2
          go_ret
          exact ⟨ret_bool (isWd_no hlt (by rw [HC.out]; omega)).symm, Below.refl _ _⟩
        · have h3 : ¬ (d : Int) ≤ c - 48 := by omega
          go_wp2
          go_round
          case rel => exact ⟨k + 1, by omega, by go_num, fun j h hj => (Nat.lt_succ_iff_lt_or_eq.1 hj).elim (HY j h) (fun e => by subst e; have := HC.out; omega)⟩
          case measure => simp [intOf]; omega
    · go_wp2
      go_ret
      exact ⟨ret_bool (isWd_iff.2 (fun j h => HY j h (by omega))).symm, Below.refl _ _⟩
set_option maxRecDepth 100000 in
set_option maxHeartbeats 4000000 in
theorem implWord (d n : Nat) (hd : d ≤ 9) (s : ByteArray) (hs : s.size ≤ 9223372036854775807) (w : World) :
    Calls Try.prog 85 #[.int .i64 (d : Int), .string s, .int .i64 (n : Int)] w fun e w' => e = .returned (.bool (isWd d s && decide (s.size ≤ n))) ∧ Below w.heap.size w w' := by
  go_enter Try.func85, Try.ntmps85
  go_wp2
  go_loop [10] (fun i => ∃ k : Nat, k ≤ s.size ∧ i = .int .i64 (k : Int) ∧ Hid (∀ j, (h : j < s.size) → j < k → 48 ≤ s[j].toNat ∧ s[j].toNat < 48 + d)) (fun i => s.size - (intOf i).toNat)
  case atStart => exact ⟨0, by omega, rfl, fun j _ hj => by omega⟩
  case round =>
    obtain ⟨k, hk, rfl, HY⟩ := hrel
    by_cases hlt : k < s.size
    · obtain ⟨c, hc⟩ : ∃ c : Int, ∀ h : k < s.size, ((s[k]'h).toNat : Int) = c := ⟨((s[k]'hlt).toNat : Int), fun _ => rfl⟩
      have hc0 : 0 ≤ c := by rw [← hc hlt]; omega
      have hc1 : c < 256 := by have := (s[k]'hlt).toNat_lt; rw [← hc hlt]; omega
      have HC := Lib.hid (hc hlt)
      by_cases h1 : c < 48
      · go_wp2
        go_ret
        exact ⟨ret_bool (by rw [isWd_no hlt (by rw [HC.out]; omega)]; rfl), Below.refl _ _⟩
      · by_cases h2 : c ≥ 48 + d
        · go_wp2
          go_ret
          exact ⟨ret_bool (by rw [isWd_no hlt (by rw [HC.out]; omega)]; rfl), Below.refl _ _⟩
        · have h3 : ¬ (48 + (d : Int)) ≤ c := by omega
          go_wp2
          go_round
          case rel => exact ⟨k + 1, by omega, by go_num, fun j h hj => (Nat.lt_succ_iff_lt_or_eq.1 hj).elim (HY j h) (fun e => by subst e; have := HC.out; omega)⟩
          case measure => simp [intOf]; omega
    · have HE := Lib.hid (isWd_iff.2 (fun j h => HY j h (by omega)))
      go_wp2
      go_ret
      exact ⟨ret_bool (by rw [HE.out, Bool.true_and]), Below.refl _ _⟩
theorem specSizes (d n : Int) (w : World) : Calls Try.prog 80 #[.int .i64 d, .int .i64 n] w fun e w' => e = .returned (.bool (lev d n)) ∧ Below w.heap.size w w' := by
  cases h1 : inR d 1 3 <;> cases h2 : inR n 1 5 <;> by_cases h3 : d < 3 <;> by_cases h4 : n ≤ 4
  all_goals
    have HL := Lib.hid (show lev d n = (inR d 1 3 && (inR n 1 5 && (decide (d < 3) || decide (n ≤ 4)))) from rfl)
    go_enter Try.func80, Try.ntmps80
    go_wp2_with (first | (go_at_call 115; refine (specIn _ _ _ _).mono ?_; rintro e w1 ⟨rfl, n_, rfl⟩))
    go_ret
    exact ⟨ret_bool (by rw [HL.out]; simp [*]), by repeat (first | exact Below.refl _ _ | apply pw_below_drewN)⟩
theorem implLetters (d : Int) (w : World) : Calls Try.prog 122 #[.int .i64 d] w fun e w' => e = .returned (.bool (inR d 1 3)) ∧ ∃ n, w' = w.drewN n := by
  go_enter Try.func122, Try.ntmps122
  go_wp2_with (first | (go_at_call 117; refine (implIn _ _ _ _).mono ?_; rintro e w1 ⟨rfl, n_, rfl⟩))
  go_ret
  exact ⟨rfl, _, rfl⟩
theorem lev5 (d n : Int) : lev d n = (inR d 1 3 && (inR n 1 5 && (decide (d < 3) || decide (n < 5)))) := by
  unfold lev
  rw [show decide (n ≤ 4) = decide (n < 5) from decide_eq_decide.2 (by omega)]
theorem implLevel (d n : Int) (w : World) : Calls Try.prog 84 #[.int .i64 d, .int .i64 n] w fun e w' => e = .returned (.bool (lev d n)) ∧ Below w.heap.size w w' := by
  cases h1 : inR d 1 3 <;> cases h2 : inR n 1 5 <;> by_cases h3 : d < 3 <;> by_cases h4 : n < 5
  all_goals
    have HL := Lib.hid (lev5 d n)
    go_enter Try.func84, Try.ntmps84
    go_wp2_with (first | (go_at_call 122; refine (implLetters _ _).mono ?_; rintro e w1 ⟨rfl, n_, rfl⟩) | (go_at_call 117; refine (implIn _ _ _ _).mono ?_; rintro e w1 ⟨rfl, n_, rfl⟩) | (go_at_call 115; refine (specIn _ _ _ _).mono ?_; rintro e w1 ⟨rfl, n_, rfl⟩))
    go_ret
    exact ⟨ret_bool (by rw [HL.out]; simp [*]), by repeat (first | exact Below.refl _ _ | apply pw_below_drewN)⟩
theorem specLevel2 (d n : Int) (w : World) : Calls Try.prog 145 #[.int .i64 d, .int .i64 n] w fun e w' => e = .returned (.bool (lev d n)) ∧ Below w.heap.size w w' := by
  cases h1 : inR d 1 3 <;> cases h2 : inR n 1 5 <;> by_cases h3 : d < 3 <;> by_cases h4 : n < 5
  all_goals
    have HL := Lib.hid (lev5 d n)
    go_enter Try.func145, Try.ntmps145
    go_wp2_with (first | (go_at_call 122; refine (implLetters _ _).mono ?_; rintro e w1 ⟨rfl, n_, rfl⟩) | (go_at_call 117; refine (implIn _ _ _ _).mono ?_; rintro e w1 ⟨rfl, n_, rfl⟩) | (go_at_call 115; refine (specIn _ _ _ _).mono ?_; rintro e w1 ⟨rfl, n_, rfl⟩))
    go_ret
    exact ⟨ret_bool (by rw [HL.out]; simp [*]), by repeat (first | exact Below.refl _ _ | apply pw_below_drewN)⟩
theorem lev_nat' {d n : Nat} (h : lev d n = true) : ∃ d' n' : Nat, d = d' ∧ n = n' ∧ 1 ≤ d ∧ d ≤ 3 ∧ 1 ≤ n ∧ n ≤ 5 := by
  have := lev_iff.1 h
  exact ⟨d, n, rfl, rfl, by omega, by omega, by omega, by omega⟩
end Go.Proofs.Ytaheikponfmdiaa.H


