/- Words that are drawn: what the reference's l01Wordy returns. Conditions: the bounds that stand in each statement. -/
import Derived.Test.YtaheikponfmdiaaKDraw3
import Derived.Test.YtaheikponfmdiaaKLaw
namespace Go.Proofs.Ytaheikponfmdiaa.H
open Go.RowKit Go.Proofs.YtaheikponfmdiaaW.PrintWords Go.Proofs.YtaheikponfmdiaaW.PrintLast Go.Proofs.YtaheikponfmdiaaW.PrintMore Go.Proofs.Ytaheikponfmdiaa.M
attribute [local go_sem] max2_int min2_int max_two min_two max_three min_three max_four min_four
set_option linter.unusedVariables false
set_option linter.unusedSimpArgs false
set_option maxRecDepth 100000
theorem str1_size (x : Int) : (strOfNums [x]).size = 1 := rfl
set_option maxHeartbeats 8000000 in
theorem specWordy (g : Nat) (A : Option Addr) (c m k : Nat) (h : Int) (d most : Nat) (w : World) (ho : (srcB g A m c k h).I w) (hcd : Code w g A m) (hk : k ≤ m) (hm : m ≤ 1048576) (hd1 : 1 ≤ d) (hd : d ≤ 9) (hmo : most ≤ 1000) :
    Calls Try.prog 126 #[.pointer (some ⟨g, 0, none⟩), .int .i64 (d : Int), .int .i64 (most : Int)] w fun e w' => ∃ (r : ByteArray) (k' : Nat) (h' : Int), e = .returned (.string r) ∧ k' ≤ m ∧ r.size ≤ most + 3 ∧ Mod w w' (fun b => b = g) [srcB g A m c k' h'] := by
  have HS := Aside0.mk (Mod.own1 ho)
  have HC := Aside0.mk hcd
  have HN := Aside0.mk (fun k h n W k1 k2 hk h1 => specNext g A c m k h n W k1 k2 hk hm h1)
  have HDM := Aside0.mk (fun k h t W k1 k2 hk h1 => specDamage g A c m k h t W k1 k2 hk hm h1)
  clear ho hcd
  go_enter Try.func126, Try.ntmps126
  go_wp2_with (first | (go_at_call 120; refine (HN.out k h ((most : Int) + 1) _ (HS.out.at (i := 0) rfl) (HC.out.mod HS.out (fun _ h => h)) hk (by omega)).mono ?_; rintro e_ w1 ⟨r, k1, h1, rfl, hk1, hr1, hr2, hs⟩; replace HS : Aside0 (Mod _ _ _ [_]) := sM1 HS 0 [] rfl hs; clear hs; obtain ⟨hr3, hr4⟩ := hr1 (by omega); clear hr1 hr2; obtain ⟨i, rfl⟩ : ∃ i : Nat, r = i := ⟨Int.toNat r, by omega⟩; have him : i ≤ most := (by omega); clear hr3 hr4))
  go_loopw [7, 8] (fun x v w' => ∃ (j : Nat) (t : ByteArray) (k1 : Nat) (h1 : Int), j + t.size ≤ most ∧ v = .int .i64 (j : Int) ∧ x = .string t ∧ k1 ≤ m ∧ Aside0 (Mod w w' (srcB g A m c k h).S [srcB g A m c k1 h1])) (fun _ v _ => (intOf v).toNat)
  case atStart => exact ⟨i, ⟨#[]⟩, k1, h1, by show i + 0 ≤ most; omega, rfl, rfl, hk1, HS⟩
  case round =>
    clear HS
    obtain ⟨j, t, k1, h1, hj, rfl, rfl, hk1, HS⟩ := hrel
    by_cases hlt : 0 < j
    · skip
      go_wp2_with (first | (go_at_call 120; refine (HN.out k1 h1 (d : Int) _ (HS.out.at (i := 0) rfl) (HC.out.mod HS.out (fun _ h => h)) hk1 (by omega)).mono ?_; rintro e_ w1 ⟨r, k2, h2, rfl, hk2, hr1, hr2, hs⟩; replace HS : Aside0 (Mod _ _ _ [_]) := sM1 HS 0 [] rfl hs; clear hs; obtain ⟨hr3, hr4⟩ := hr1 (by omega); clear hr1 hr2; obtain ⟨u, rfl⟩ : ∃ i : Nat, r = i := ⟨Int.toNat r, by omega⟩; have hu : u < d := (by omega); clear hr3 hr4; have hw2 : IntKind.u8.wrap (48 + (u : Int)) = 48 + u := u8_small _ (by omega) (by omega); have hcv := byte_string w1 (48 + (u : Int)); have hsz : (9223372036854775807 < t.size + (strOfNums [48 + (u : Int)]).size) = False := eq_false (Nat.not_lt.2 (show t.size + 1 ≤ 9223372036854775807 by omega))))
      go_roundw
      case rel => exact ⟨j - 1, t ++ strOfNums [48 + (u : Int)], k2, h2, by rw [ByteArray.size_append, str1_size]; omega, by first | go_num | (congr 1; omega), rfl, hk2, ⟨HS.out.call (below_alloc (Below.refl _ _) _)⟩⟩
      case measure => simp [intOf]; omega
    · obtain rfl : j = 0 := by omega
      have hts : t.size ≤ most := by omega
      go_wp2_with (first | (go_at_call 120; refine (HN.out k1 h1 20 _ (HS.out.at (i := 0) rfl) (HC.out.mod HS.out (fun _ h => h)) hk1 (by omega)).mono ?_; rintro e_ w1 ⟨r, k2, h2, rfl, hk2, hr1, hr2, hs⟩; replace HS : Aside0 (Mod _ _ _ [_]) := sM1 HS 0 [] rfl hs; clear hs; clear hr1 hr2; refine Hid.out ?_))
      refine Lib.hid ?_
      by_cases h0 : r = 0
      · have hu0 : (r == 0) = true := by rw [h0]; rfl
        clear h0
        go_wp2_with (first | (go_at_call 171; refine (HDM.out k2 h2 t _ (HS.out.at (i := 0) rfl) (HC.out.mod HS.out (fun _ h => h)) hk2 (by omega)).mono ?_; rintro e_ w1 ⟨r3, k3, h3, rfl, hk3, hr3, hs⟩; replace HS : Aside0 (Mod _ _ _ [_]) := sM1 HS 0 [] rfl hs; clear hs))
        go_ret
        exact ⟨r3, k3, h3, rfl, hk3, by omega, HS.out⟩
      · have hu0 : (r == 0) = false := by simpa using h0
        by_cases h1_ : r = 1
        · have hu1 : (r == 1) = true := by rw [h1_]; rfl
          have hsz : ¬ (9223372036854775807 < t.size + 3) := by omega
          clear h0 h1_
          go_wp2
          go_ret
          exact ⟨_, k2, h2, rfl, hk2, by rw [ByteArray.size_append]; show t.size + 3 ≤ _; omega, HS.out⟩
        · have hu1 : (r == 1) = false := by simpa using h1_
          clear h0 h1_
          go_wp2
          go_ret
          exact ⟨t, k2, h2, rfl, hk2, by omega, HS.out⟩
theorem specWordyI (g : Nat) (A : Option Addr) (c m k : Nat) (h : Int) (d most : Int) (w : World) (ho : (srcB g A m c k h).I w) (hcd : Code w g A m) (hk : k ≤ m) (hm : m ≤ 1048576) (hd1 : 1 ≤ d) (hd : d ≤ 9) (h0 : 0 ≤ most) (hmo : most ≤ 1000) :
    Calls Try.prog 126 #[.pointer (some ⟨g, 0, none⟩), .int .i64 d, .int .i64 most] w fun e w' => ∃ (r : ByteArray) (k' : Nat) (h' : Int), e = .returned (.string r) ∧ k' ≤ m ∧ r.size ≤ most.toNat + 3 ∧ Mod w w' (fun b => b = g) [srcB g A m c k' h'] := by
  obtain ⟨d, rfl⟩ : ∃ d' : Nat, d = d' := ⟨d.toNat, by omega⟩
  obtain ⟨most, rfl⟩ : ∃ d' : Nat, most = d' := ⟨most.toNat, by omega⟩
  rw [Int.toNat_natCast]
  exact specWordy g A c m k h d most w ho hcd hk hm (by omega) (by omega) (by omega)
end Go.Proofs.Ytaheikponfmdiaa.H


