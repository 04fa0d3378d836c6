/- Words and their numbers: what NumberOfWord, WordsOf return in the program and in the reference. Conditions: the bounds that stand in each statement. -/
import Derived.Test.YtaheikponfmdiaaKLeaf
import Derived.Test.YtaheikponfmdiaaKSWords
import Derived.Test.YtaheikponfmdiaaKIs
namespace Go.Proofs.Ytaheikponfmdiaa.M
def nowR (d : Int) (s : ByteArray) : Int × Int := if inR d 1 3 = true then (if (isWd d.toNat s && decide (s.size ≤ 5)) = true then ((num d.toNat s : Nat), 0) else (0, 2)) else (0, 2)
def woR (d n : Int) : List ByteArray × Int := if inR d 1 3 = true then (if inR n 0 5 = true then (wordsN d.toNat n.toNat, 0) else ([], 2)) else ([], 2)
end Go.Proofs.Ytaheikponfmdiaa.M
namespace Go.Proofs.Ytaheikponfmdiaa.H
open Go.RowKit Go.Proofs.YtaheikponfmdiaaW.PrintWords Go.Proofs.YtaheikponfmdiaaW.PrintLast Go.Proofs.YtaheikponfmdiaaW.PrintMore Go.Proofs.Ytaheikponfmdiaa.M
attribute [local go_sem] max2_int min2_int max_two min_two max_three min_three max_four min_four
set_option linter.unusedVariables false
set_option linter.unusedSimpArgs false
set_option maxRecDepth 100000
theorem inR_nat {d : Int} (h : inR d 1 3 = true) : ∃ n : Nat, d = n ∧ 1 ≤ n ∧ n ≤ 3 := by
  have := (inR_iff _ _ _).1 h
  exact ⟨d.toNat, by omega, by omega, by omega⟩
set_option maxHeartbeats 4000000 in
theorem specCount1 (n : Nat) (hn : n ≤ 5) (w : World) : Calls Try.prog 124 #[.int .i64 1, .int .i64 (n : Int)] w fun e w' => e = .returned (.int .i64 ((1 ^ n : Nat) : Int)) ∧ Below w.heap.size w w' := by
  go_enter Try.func124, Try.ntmps124
  go_wp2
  go_loop [1, 5] (fun v x => ∃ j m : Nat, j ≤ n ∧ v = .int .i64 (j : Int) ∧ x = .int .i64 (m : Int) ∧ Hid (m = 1 ^ (n - j))) (fun v _ => (intOf v).toNat)
  case atStart => exact ⟨n, 1, by omega, rfl, rfl, by show 1 = 1 ^ (n - n); simp⟩
  case round =>
    obtain ⟨j, m, hj, rfl, rfl, HM⟩ := hrel
    have hm : m ≤ 243 := by rw [HM.out]; exact pow_le_243 (by omega) (by omega)
    by_cases hlt : 0 < j
    · have HM2 := Lib.hid (show m * 1 = 1 ^ (n - (j - 1)) by rw [show n - (j - 1) = n - j + 1 by omega, Nat.pow_succ, HM.out])
      go_wp2
      go_round
      case rel => exact ⟨j - 1, m * 1, by omega, by first | go_num | (congr 1; omega), by first | go_num | (congr 1; omega), HM2⟩
      case measure => simp [intOf]; omega
    · obtain rfl : j = 0 := by omega
      go_wp2
      go_ret
      exact ⟨ret_int (by rw [HM.out, Nat.sub_zero]; first | rfl | simp), Below.refl _ _⟩
set_option maxHeartbeats 4000000 in
theorem specCount2 (n : Nat) (hn : n ≤ 5) (w : World) : Calls Try.prog 124 #[.int .i64 2, .int .i64 (n : Int)] w fun e w' => e = .returned (.int .i64 ((2 ^ n : Nat) : Int)) ∧ Below w.heap.size w w' := by
  go_enter Try.func124, Try.ntmps124
  go_wp2
  go_loop [1, 5] (fun v x => ∃ j m : Nat, j ≤ n ∧ v = .int .i64 (j : Int) ∧ x = .int .i64 (m : Int) ∧ Hid (m = 2 ^ (n - j))) (fun v _ => (intOf v).toNat)
  case atStart => exact ⟨n, 1, by omega, rfl, rfl, by show 1 = 2 ^ (n - n); simp⟩
  case round =>
    obtain ⟨j, m, hj, rfl, rfl, HM⟩ := hrel
    have hm : m ≤ 243 := by rw [HM.out]; exact pow_le_243 (by omega) (by omega)
    by_cases hlt : 0 < j
    · have HM2 := Lib.hid (show m * 2 = 2 ^ (n - (j - 1)) by rw [show n - (j - 1) = n - j + 1 by omega, Nat.pow_succ, HM.out])
      go_wp2
      go_round
      case rel => exact ⟨j - 1, m * 2, by omega, by first | go_num | (congr 1; omega), by first | go_num | (congr 1; omega), HM2⟩
      case measure => simp [intOf]; omega
    · obtain rfl : j = 0 := by omega
      go_wp2
      go_ret
      exact ⟨ret_int (by rw [HM.out, Nat.sub_zero]; first | rfl | simp), Below.refl _ _⟩
set_option maxHeartbeats 4000000 in
theorem specCount3 (n : Nat) (hn : n ≤ 5) (w : World) : Calls Try.prog 124 #[.int .i64 3, .int .i64 (n : Int)] w fun e w' => e = .returned (.int .i64 ((3 ^ n : Nat) : Int)) ∧ Below w.heap.size w w' := by
  go_enter Try.func124, Try.ntmps124
  go_wp2
  go_loop [1, 5] (fun v x => ∃ j m : Nat, j ≤ n ∧ v = .int .i64 (j : Int) ∧ x = .int .i64 (m : Int) ∧ Hid (m = 3 ^ (n - j))) (fun v _ => (intOf v).toNat)
  case atStart => exact ⟨n, 1, by omega, rfl, rfl, by show 1 = 3 ^ (n - n); simp⟩
  case round =>
    obtain ⟨j, m, hj, rfl, rfl, HM⟩ := hrel
    have hm : m ≤ 243 := by rw [HM.out]; exact pow_le_243 (by omega) (by omega)
    by_cases hlt : 0 < j
    · have HM2 := Lib.hid (show m * 3 = 3 ^ (n - (j - 1)) by rw [show n - (j - 1) = n - j + 1 by omega, Nat.pow_succ, HM.out])
      go_wp2
      go_round
      case rel => exact ⟨j - 1, m * 3, by omega, by first | go_num | (congr 1; omega), by first | go_num | (congr 1; omega), HM2⟩
      case measure => simp [intOf]; omega
    · obtain rfl : j = 0 := by omega
      go_wp2
      go_ret
      exact ⟨ret_int (by rw [HM.out, Nat.sub_zero]; first | rfl | simp), Below.refl _ _⟩
set_option maxHeartbeats 4000000 in
theorem implNumberOfWord (d : Int) (s : ByteArray) (w : World) (hs : s.size ≤ 1048576) : Calls Try.prog 38 #[.int .i64 d, .string s] w fun e w' => e = .returned (.tuple #[.int .i64 (nowR d s).1, .int .i64 (nowR d s).2]) ∧ Below w.heap.size w w' := by
  have HS := Aside0.mk (Sep.refl w)
  unfold nowR
  have HA := Aside0.mk (fun X => quietB (implLetters d X))
  cases h : inR d 1 3 with
  | false =>
    rw [h] at HA
    go_enter Try.func38, Try.ntmps38
    go_wp2_with (first | (go_at_call 122; refine (HA.out _).mono ?_; rintro e_ w1 ⟨rfl, hb⟩; replace HS := sB HS hb; clear hb))
    go_ret2
    exact ⟨rfl, HS.out.below⟩
  | true =>
    rw [h] at HA
    obtain ⟨d, rfl, hd1, hd3⟩ := inR_nat h
    rw [Int.toNat_natCast]
    have HW := Aside0.mk (fun X => implWord d 5 (by omega) s (by omega) X)
    cases h2 : (isWd d s && decide (s.size ≤ 5)) with
    | false =>
      rw [h2] at HW
      clear h2
      go_enter Try.func38, Try.ntmps38
      go_wp2_with (first | (go_at_call 122; refine (HA.out _).mono ?_; rintro e_ w1 ⟨rfl, hb⟩; replace HS := sB HS hb; clear hb) | (go_at_call 85; refine (HW.out _).mono ?_; rintro e_ w1 ⟨rfl, hb⟩; replace HS := sB HS hb; clear hb))
      go_ret2
      exact ⟨rfl, HS.out.below⟩
    | true =>
      rw [h2] at HW
      rw [Bool.and_eq_true] at h2
      have HN := Aside0.mk (fun X => implNumber d s X hd1 hd3 h2.1 (of_decide_eq_true h2.2))
      clear h2
      go_enter Try.func38, Try.ntmps38
      go_wp2_with (first | (go_at_call 122; refine (HA.out _).mono ?_; rintro e_ w1 ⟨rfl, hb⟩; replace HS := sB HS hb; clear hb) | (go_at_call 85; refine (HW.out _).mono ?_; rintro e_ w1 ⟨rfl, hb⟩; replace HS := sB HS hb; clear hb) | (go_at_call 125; refine (HN.out _).mono ?_; rintro e_ w1 ⟨rfl, hb⟩; replace HS := sB HS hb; clear hb))
      go_ret2
      exact ⟨rfl, HS.out.below⟩
set_option maxHeartbeats 8000000 in
theorem specNumberOfWord1 (s : ByteArray) (w : World) (hw : isWd 1 s = true) (hs : s.size ≤ 5) : Calls Try.prog 40 #[.int .i64 1, .string s] w fun e w' => e = .returned (.tuple #[.int .i64 ((num 1 s : Nat) : Int), .int .i64 0]) ∧ Below w.heap.size w w' := by
  have HW := Aside0.mk hw
  have HWD := Aside0.mk (fun X => hw ▸ specWord 1 (by omega) s (by omega) X)
  have HI := Aside0.mk (fun X => (specInB 1 1 3 X : Calls Try.prog 115 #[.int .i64 1, .int .i64 1, .int .i64 3] X fun e w' => e = .returned (.bool true) ∧ Below X.heap.size X w'))
  have hs5 : ¬ ((5 : Int) < (s.size : Int)) := by omega
  have HS := Aside0.mk (Sep.refl w)
  clear hw
  go_enter Try.func40, Try.ntmps40
  go_wp2_with (first | (go_at_call 115; refine (HI.out _).mono ?_; rintro e_ w1 ⟨rfl, hb⟩; replace HS := sB HS hb; clear hb) | (go_at_call 81; refine (HWD.out _).mono ?_; rintro e_ w1 ⟨rfl, hb⟩; replace HS := sB HS hb; clear hb))
  go_loopw [6, 7, 8] (fun x y v w' => ∃ k a b : Nat, k ≤ s.size ∧ v = .int .i64 (k : Int) ∧ x = .int .i64 (a : Int) ∧ y = .int .i64 (b : Int) ∧ Hid (a = M.ahead 1 k) ∧ Hid (b = valL 1 ((bl s).take k)) ∧ Aside0 (Mod w w' No [])) (fun _ _ v _ => s.size - (intOf v).toNat)
  case atStart => exact ⟨0, 0, 0, by omega, rfl, rfl, rfl, rfl, rfl, HS⟩
  case round =>
    clear HS
    obtain ⟨k, a, b, hk, rfl, rfl, rfl, HA, HV, HS⟩ := hrel
    have ha : a ≤ 10000 := by rw [HA.out]; exact ahead_le (by omega) (by omega)
    have hm : 1 ^ k ≤ 243 := pow_le_243 (by omega) (by omega)
    have hb : b < 1 ^ k := by rw [HV.out]; exact valL_take_lt HW.out k hk
    have HC := Aside0.mk (fun X => specCount1 k (by omega) X)
    have HA2 := Lib.hid (show a + 1 ^ k = M.ahead 1 (k + 1) by rw [M.ahead, HA.out])
    obtain ⟨m, hmm⟩ : ∃ m, m = 1 ^ k := ⟨_, rfl⟩
    rw [← hmm] at hm hb HC HA2
    clear hmm
    by_cases hlt : k < s.size
    · obtain ⟨c, hc⟩ : ∃ c : Int, ∀ h : k < s.size, ((s[k]'h).toNat : Int) = c := ⟨((s[k]'hlt).toNat : Int), fun _ => rfl⟩
      obtain ⟨h1, h2⟩ := isWd_at HW.out k hlt
      obtain ⟨q, hq⟩ : ∃ q : Nat, c = 48 + (q : Int) := ⟨(s[k]'hlt).toNat - 48, by rw [← hc hlt]; omega⟩
      have HQ := Aside0.mk (show s[k].toNat - 48 = q by have := hc hlt; omega)
      have hq3 : q < 1 := by have := HQ.out; omega
      subst hq
      clear h1 h2
      have hu : IntKind.u8.wrap (48 + (q : Int) - 48) = q := IntWalk.u8_in _ ⟨by omega, by omega⟩ |>.trans (by omega)
      have hu2 : IntKind.u8.wrap (q : Int) = q := IntWalk.u8_in _ ⟨by omega, by omega⟩
      have HV2 := Lib.hid (show b * 1 + q = valL 1 ((bl s).take (k + 1)) by rw [take_snoc s k hlt, valL_snoc, ← HV.out, HQ.out])
      go_wp2_with (first | (go_at_call 124; refine (HC.out _).mono ?_; rintro e_ w1 ⟨rfl, hb⟩; replace HS := sB HS hb; clear hb))
      go_roundw
      case rel => exact ⟨k + 1, a + m, b * 1 + q, by omega, by go_num, by first | go_num | (congr 1; omega), by first | go_num | (congr 1; omega), HA2, HV2, HS⟩
      case measure => simp [intOf]; omega
    · obtain rfl : k = s.size := by omega
      have HE := Aside0.mk (show num 1 s = a + b by rw [num, HA.out, HV.out, List.take_of_length_le (by rw [bl_len]; omega)])
      go_wp2
      go_ret2
      rw [HE.out]
      refine ⟨?_, HS.out.below⟩
      first | rfl | (congr 3; omega) | (congr 2; omega)
set_option maxHeartbeats 8000000 in
theorem specNumberOfWord2 (s : ByteArray) (w : World) (hw : isWd 2 s = true) (hs : s.size ≤ 5) : Calls Try.prog 40 #[.int .i64 2, .string s] w fun e w' => e = .returned (.tuple #[.int .i64 ((num 2 s : Nat) : Int), .int .i64 0]) ∧ Below w.heap.size w w' := by
  have HW := Aside0.mk hw
  have HWD := Aside0.mk (fun X => hw ▸ specWord 2 (by omega) s (by omega) X)
  have HI := Aside0.mk (fun X => (specInB 2 1 3 X : Calls Try.prog 115 #[.int .i64 2, .int .i64 1, .int .i64 3] X fun e w' => e = .returned (.bool true) ∧ Below X.heap.size X w'))
  have hs5 : ¬ ((5 : Int) < (s.size : Int)) := by omega
  have HS := Aside0.mk (Sep.refl w)
  clear hw
  go_enter Try.func40, Try.ntmps40
  go_wp2_with (first | (go_at_call 115; refine (HI.out _).mono ?_; rintro e_ w1 ⟨rfl, hb⟩; replace HS := sB HS hb; clear hb) | (go_at_call 81; refine (HWD.out _).mono ?_; rintro e_ w1 ⟨rfl, hb⟩; replace HS := sB HS hb; clear hb))
  go_loopw [6, 7, 8] (fun x y v w' => ∃ k a b : Nat, k ≤ s.size ∧ v = .int .i64 (k : Int) ∧ x = .int .i64 (a : Int) ∧ y = .int .i64 (b : Int) ∧ Hid (a = M.ahead 2 k) ∧ Hid (b = valL 2 ((bl s).take k)) ∧ Aside0 (Mod w w' No [])) (fun _ _ v _ => s.size - (intOf v).toNat)
  case atStart => exact ⟨0, 0, 0, by omega, rfl, rfl, rfl, rfl, rfl, HS⟩
  case round =>
    clear HS
    obtain ⟨k, a, b, hk, rfl, rfl, rfl, HA, HV, HS⟩ := hrel
    have ha : a ≤ 10000 := by rw [HA.out]; exact ahead_le (by omega) (by omega)
    have hm : 2 ^ k ≤ 243 := pow_le_243 (by omega) (by omega)
    have hb : b < 2 ^ k := by rw [HV.out]; exact valL_take_lt HW.out k hk
    have HC := Aside0.mk (fun X => specCount2 k (by omega) X)
    have HA2 := Lib.hid (show a + 2 ^ k = M.ahead 2 (k + 1) by rw [M.ahead, HA.out])
    obtain ⟨m, hmm⟩ : ∃ m, m = 2 ^ k := ⟨_, rfl⟩
    rw [← hmm] at hm hb HC HA2
    clear hmm
    by_cases hlt : k < s.size
    · obtain ⟨c, hc⟩ : ∃ c : Int, ∀ h : k < s.size, ((s[k]'h).toNat : Int) = c := ⟨((s[k]'hlt).toNat : Int), fun _ => rfl⟩
      obtain ⟨h1, h2⟩ := isWd_at HW.out k hlt
      obtain ⟨q, hq⟩ : ∃ q : Nat, c = 48 + (q : Int) := ⟨(s[k]'hlt).toNat - 48, by rw [← hc hlt]; omega⟩
      have HQ := Aside0.mk (show s[k].toNat - 48 = q by have := hc hlt; omega)
      have hq3 : q < 2 := by have := HQ.out; omega
      subst hq
      clear h1 h2
      have hu : IntKind.u8.wrap (48 + (q : Int) - 48) = q := IntWalk.u8_in _ ⟨by omega, by omega⟩ |>.trans (by omega)
      have hu2 : IntKind.u8.wrap (q : Int) = q := IntWalk.u8_in _ ⟨by omega, by omega⟩
      have HV2 := Lib.hid (show b * 2 + q = valL 2 ((bl s).take (k + 1)) by rw [take_snoc s k hlt, valL_snoc, ← HV.out, HQ.out])
      go_wp2_with (first | (go_at_call 124; refine (HC.out _).mono ?_; rintro e_ w1 ⟨rfl, hb⟩; replace HS := sB HS hb; clear hb))
      go_roundw
      case rel => exact ⟨k + 1, a + m, b * 2 + q, by omega, by go_num, by first | go_num | (congr 1; omega), by first | go_num | (congr 1; omega), HA2, HV2, HS⟩
      case measure => simp [intOf]; omega
    · obtain rfl : k = s.size := by omega
      have HE := Aside0.mk (show num 2 s = a + b by rw [num, HA.out, HV.out, List.take_of_length_le (by rw [bl_len]; omega)])
      go_wp2
      go_ret2
      rw [HE.out]
      refine ⟨?_, HS.out.below⟩
      first | rfl | (congr 3; omega) | (congr 2; omega)
set_option maxHeartbeats 8000000 in
theorem specNumberOfWord3 (s : ByteArray) (w : World) (hw : isWd 3 s = true) (hs : s.size ≤ 5) : Calls Try.prog 40 #[.int .i64 3, .string s] w fun e w' => e = .returned (.tuple #[.int .i64 ((num 3 s : Nat) : Int), .int .i64 0]) ∧ Below w.heap.size w w' := by
  have HW := Aside0.mk hw
  have HWD := Aside0.mk (fun X => hw ▸ specWord 3 (by omega) s (by omega) X)
  have HI := Aside0.mk (fun X => (specInB 3 1 3 X : Calls Try.prog 115 #[.int .i64 3, .int .i64 1, .int .i64 3] X fun e w' => e = .returned (.bool true) ∧ Below X.heap.size X w'))
  have hs5 : ¬ ((5 : Int) < (s.size : Int)) := by omega
  have HS := Aside0.mk (Sep.refl w)
  clear hw
  go_enter Try.func40, Try.ntmps40
  go_wp2_with (first | (go_at_call 115; refine (HI.out _).mono ?_; rintro e_ w1 ⟨rfl, hb⟩; replace HS := sB HS hb; clear hb) | (go_at_call 81; refine (HWD.out _).mono ?_; rintro e_ w1 ⟨rfl, hb⟩; replace HS := sB HS hb; clear hb))
  go_loopw [6, 7, 8] (fun x y v w' => ∃ k a b : Nat, k ≤ s.size ∧ v = .int .i64 (k : Int) ∧ x = .int .i64 (a : Int) ∧ y = .int .i64 (b : Int) ∧ Hid (a = M.ahead 3 k) ∧ Hid (b = valL 3 ((bl s).take k)) ∧ Aside0 (Mod w w' No [])) (fun _ _ v _ => s.size - (intOf v).toNat)
  case atStart => exact ⟨0, 0, 0, by omega, rfl, rfl, rfl, rfl, rfl, HS⟩
  case round =>
    clear HS
    obtain ⟨k, a, b, hk, rfl, rfl, rfl, HA, HV, HS⟩ := hrel
    have ha : a ≤ 10000 := by rw [HA.out]; exact ahead_le (by omega) (by omega)
    have hm : 3 ^ k ≤ 243 := pow_le_243 (by omega) (by omega)
    have hb : b < 3 ^ k := by rw [HV.out]; exact valL_take_lt HW.out k hk
    have HC := Aside0.mk (fun X => specCount3 k (by omega) X)
    have HA2 := Lib.hid (show a + 3 ^ k = M.ahead 3 (k + 1) by rw [M.ahead, HA.out])
    obtain ⟨m, hmm⟩ : ∃ m, m = 3 ^ k := ⟨_, rfl⟩
    rw [← hmm] at hm hb HC HA2
    clear hmm
    by_cases hlt : k < s.size
    · obtain ⟨c, hc⟩ : ∃ c : Int, ∀ h : k < s.size, ((s[k]'h).toNat : Int) = c := ⟨((s[k]'hlt).toNat : Int), fun _ => rfl⟩
      obtain ⟨h1, h2⟩ := isWd_at HW.out k hlt
      obtain ⟨q, hq⟩ : ∃ q : Nat, c = 48 + (q : Int) := ⟨(s[k]'hlt).toNat - 48, by rw [← hc hlt]; omega⟩
      have HQ := Aside0.mk (show s[k].toNat - 48 = q by have := hc hlt; omega)
      have hq3 : q < 3 := by have := HQ.out; omega
      subst hq
      clear h1 h2
      have hu : IntKind.u8.wrap (48 + (q : Int) - 48) = q := IntWalk.u8_in _ ⟨by omega, by omega⟩ |>.trans (by omega)
      have hu2 : IntKind.u8.wrap (q : Int) = q := IntWalk.u8_in _ ⟨by omega, by omega⟩
      have HV2 := Lib.hid (show b * 3 + q = valL 3 ((bl s).take (k + 1)) by rw [take_snoc s k hlt, valL_snoc, ← HV.out, HQ.out])
      go_wp2_with (first | (go_at_call 124; refine (HC.out _).mono ?_; rintro e_ w1 ⟨rfl, hb⟩; replace HS := sB HS hb; clear hb))
      go_roundw
      case rel => exact ⟨k + 1, a + m, b * 3 + q, by omega, by go_num, by first | go_num | (congr 1; omega), by first | go_num | (congr 1; omega), HA2, HV2, HS⟩
      case measure => simp [intOf]; omega
    · obtain rfl : k = s.size := by omega
      have HE := Aside0.mk (show num 3 s = a + b by rw [num, HA.out, HV.out, List.take_of_length_le (by rw [bl_len]; omega)])
      go_wp2
      go_ret2
      rw [HE.out]
      refine ⟨?_, HS.out.below⟩
      first | rfl | (congr 3; omega) | (congr 2; omega)
set_option maxHeartbeats 4000000 in
theorem specNumberOfWord (d : Int) (s : ByteArray) (w : World) (hs : s.size ≤ 1048576) : Calls Try.prog 40 #[.int .i64 d, .string s] w fun e w' => e = .returned (.tuple #[.int .i64 (nowR d s).1, .int .i64 (nowR d s).2]) ∧ Below w.heap.size w w' := by
  have HS := Aside0.mk (Sep.refl w)
  unfold nowR
  have HI := Aside0.mk (fun X => specInB d 1 3 X)
  cases h : inR d 1 3 with
  | false =>
    rw [h] at HI
    go_enter Try.func40, Try.ntmps40
    go_wp2_with (first | (go_at_call 115; refine (HI.out _).mono ?_; rintro e_ w1 ⟨rfl, hb⟩; replace HS := sB HS hb; clear hb))
    go_ret2
    exact ⟨rfl, HS.out.below⟩
  | true =>
    rw [h] at HI
    obtain ⟨d, rfl, hd1, hd3⟩ := inR_nat h
    rw [Int.toNat_natCast]
    by_cases h5 : s.size ≤ 5
    · cases h2 : isWd d s with
      | false =>
        have HW := Aside0.mk (fun X => h2 ▸ specWord d (by omega) s (by omega) X)
        have hs5 : ¬ ((5 : Int) < (s.size : Int)) := by omega
        clear h2 h5
        go_enter Try.func40, Try.ntmps40
        go_wp2_with (first | (go_at_call 115; refine (HI.out _).mono ?_; rintro e_ w1 ⟨rfl, hb⟩; replace HS := sB HS hb; clear hb) | (go_at_call 81; refine (HW.out _).mono ?_; rintro e_ w1 ⟨rfl, hb⟩; replace HS := sB HS hb; clear hb))
        go_ret2
        exact ⟨rfl, HS.out.below⟩
      | true =>
        rw [if_pos rfl, if_pos (by simpa using h5)]
        obtain rfl | rfl | rfl : d = 1 ∨ d = 2 ∨ d = 3 := by omega
        · exact specNumberOfWord1 s w h2 h5
        · exact specNumberOfWord2 s w h2 h5
        · exact specNumberOfWord3 s w h2 h5
    · have hs5 : ((5 : Int) < (s.size : Int)) := by omega
      have hde : (isWd d s && decide (s.size ≤ 5)) = false := by rw [decide_eq_false h5, Bool.and_false]
      rw [hde]
      clear h5 hde
      go_enter Try.func40, Try.ntmps40
      go_wp2_with (first | (go_at_call 115; refine (HI.out _).mono ?_; rintro e_ w1 ⟨rfl, hb⟩; replace HS := sB HS hb; clear hb))
      go_ret2
      exact ⟨rfl, HS.out.below⟩
/-- A row of words and a code. -/
def RetW (w : World) (r : List ByteArray × Int) (e : Ending) (w' : World) : Prop := ∃ A c, e = .returned (.tuple #[.slice A r.1.length c, .int .i64 r.2]) ∧ Sep w w' [rowS A c r.1]
theorem nilW {w W : World} (h : Sep w W []) : Sep w W [rowS none 0 []] := h.nil (d := Kd.string) (hE := rfl) (e := 9)
set_option maxHeartbeats 4000000 in
theorem implWordsOf (d n : Int) (w : World) : Calls Try.prog 42 #[.int .i64 d, .int .i64 n] w (RetW w (woR d n)) := by
  have HS := Aside0.mk (Sep.refl w)
  unfold woR
  have HA := Aside0.mk (fun X => quietB (implLetters d X))
  have HB := Aside0.mk (fun X => implInB n 0 5 X)
  cases h : inR d 1 3 with
  | false =>
    rw [h] at HA
    go_enter Try.func42, Try.ntmps42
    go_wp2_with (first | (go_at_call 122; refine (HA.out _).mono ?_; rintro e_ w1 ⟨rfl, hb⟩; replace HS := sB HS hb; clear hb))
    go_ret2
    exact ⟨none, 0, rfl, nilW HS.out⟩
  | true =>
    rw [h] at HA
    obtain ⟨d, rfl, hd1, hd3⟩ := inR_nat h
    rw [Int.toNat_natCast]
    cases h2 : inR n 0 5 with
    | false =>
      rw [h2] at HB
      go_enter Try.func42, Try.ntmps42
      go_wp2_with (first | (go_at_call 122; refine (HA.out _).mono ?_; rintro e_ w1 ⟨rfl, hb⟩; replace HS := sB HS hb; clear hb) | (go_at_call 117; refine (HB.out _).mono ?_; rintro e_ w1 ⟨rfl, hb⟩; replace HS := sB HS hb; clear hb))
      go_ret2
      exact ⟨none, 0, rfl, nilW HS.out⟩
    | true =>
      rw [h2] at HB
      have h3 := (inR_iff _ _ _).1 h2
      obtain ⟨n, rfl⟩ : ∃ k : Nat, n = k := ⟨n.toNat, by omega⟩
      rw [Int.toNat_natCast]
      have hn : n ≤ 5 := by omega
      clear h2 h3
      go_enter Try.func42, Try.ntmps42
      go_wp2_with (first | (go_at_call 122; refine (HA.out _).mono ?_; rintro e_ w1 ⟨rfl, hb⟩; replace HS := sB HS hb; clear hb) | (go_at_call 117; refine (HB.out _).mono ?_; rintro e_ w1 ⟨rfl, hb⟩; replace HS := sB HS hb; clear hb) | (go_at_call 127; refine (implWords d n _ hd3 (by omega)).mono ?_; rintro e_ w1 ⟨B, b, rfl, hs⟩; replace HS := sN1 HS hs; clear hs))
      go_ret2
      exact ⟨B, b, rfl, HS.out⟩
set_option maxHeartbeats 4000000 in
theorem specWordsOf (d n : Int) (w : World) : Calls Try.prog 43 #[.int .i64 d, .int .i64 n] w (RetW w (woR d n)) := by
  have HS := Aside0.mk (Sep.refl w)
  unfold woR
  have HA := Aside0.mk (fun X => specInB d 1 3 X)
  have HB := Aside0.mk (fun X => specInB n 0 5 X)
  cases h : inR d 1 3 with
  | false =>
    rw [h] at HA
    go_enter Try.func43, Try.ntmps43
    go_wp2_with (first | (go_at_call 115; refine (HA.out _).mono ?_; rintro e_ w1 ⟨rfl, hb⟩; replace HS := sB HS hb; clear hb))
    go_ret2
    exact ⟨none, 0, rfl, nilW HS.out⟩
  | true =>
    rw [h] at HA
    obtain ⟨d, rfl, hd1, hd3⟩ := inR_nat h
    rw [Int.toNat_natCast]
    cases h2 : inR n 0 5 with
    | false =>
      rw [h2] at HB
      go_enter Try.func43, Try.ntmps43
      have tk1_ : True := trivial
      go_wp2_with (first | (go_at_call 115; clear tk1_; refine (HA.out _).mono ?_; rintro e_ w1 ⟨rfl, hb⟩; replace HS := sB HS hb; clear hb) | (go_at_call 115; refine (HB.out _).mono ?_; rintro e_ w1 ⟨rfl, hb⟩; replace HS := sB HS hb; clear hb))
      go_ret2
      exact ⟨none, 0, rfl, nilW HS.out⟩
    | true =>
      rw [h2] at HB
      have h3 := (inR_iff _ _ _).1 h2
      obtain ⟨n, rfl⟩ : ∃ k : Nat, n = k := ⟨n.toNat, by omega⟩
      rw [Int.toNat_natCast]
      have hn : n ≤ 5 := by omega
      clear h2 h3
      go_enter Try.func43, Try.ntmps43
      have tk2_ : True := trivial
      go_wp2_with (first | (go_at_call 115; clear tk2_; refine (HA.out _).mono ?_; rintro e_ w1 ⟨rfl, hb⟩; replace HS := sB HS hb; clear hb) | (go_at_call 115; refine (HB.out _).mono ?_; rintro e_ w1 ⟨rfl, hb⟩; replace HS := sB HS hb; clear hb) | (go_at_call 128; refine (specWordsS d n _ hd3 (by omega)).mono ?_; rintro e_ w1 ⟨B, b, rfl, hs⟩; replace HS := sN1 HS hs; clear hs))
      go_ret2
      exact ⟨B, b, rfl, HS.out⟩
end Go.Proofs.Ytaheikponfmdiaa.H


