/- What the draws for words and their numbers return. Conditions: codes of bytes, at most 1048576 of them. -/
import Derived.Test.YtaheikponfmdiaaKDraw4
namespace Go.Proofs.Ytaheikponfmdiaa.H
open Go.RowKit Go.Proofs.YtaheikponfmdiaaW.PrintWords Go.Proofs.YtaheikponfmdiaaW.PrintLast Go.Proofs.YtaheikponfmdiaaW.PrintMore Go.Proofs.Ytaheikponfmdiaa.M
attribute [local go_sem] max2_int min2_int max_two min_two max_three min_three max_four min_four
set_option linter.unusedVariables false
set_option linter.unusedSimpArgs false
set_option maxRecDepth 100000
/-- The code's bytes can be read. -/
structure Bytes (w : World) (A : Option Addr) (xs : List Int) : Prop where
  r : (Kd.int .u8).C w A xs.length xs
  b : ∀ x ∈ xs, 0 ≤ x ∧ x < 256
  l : xs.length ≤ 1048576
theorem Bytes.old {w W : World} {A : Option Addr} {xs : List Int} {L : List As} (h : Bytes w A xs) (HS : Mod w W No L) : Bytes W A xs := ⟨HS.oldC h.r, h.b, h.l⟩
theorem Bytes.code {w W : World} {A : Option Addr} {xs : List Int} {L : List As} (h : Bytes w A xs) (HS : Mod w W No L) {i g t : Nat} {cs : Array Value} (hi : L[i]? = some (bx g t cs)) : Code W g A xs.length := Code.of HS hi h.r h.b
set_option maxHeartbeats 8000000 in
theorem specDrawWordsOf (A : Option Addr) (c : Nat) (xs : List Int) (w : World) (hx : Bytes w A xs) :
    Calls Try.prog 41 #[.slice A xs.length c] w fun e w' => ∃ a b : Int, e = .returned (.tuple #[.int .i64 a, .int .i64 b]) ∧ Below w.heap.size w w' := by
  have HX := Aside0.mk hx
  have hl := hx.l
  have HN := Aside0.mk (fun g k h n W k1 k2 hk h1 h2 => specNear g A c xs.length k h n W k1 k2 hk hl h1 h2)
  have HS := Aside0.mk (Sep.refl w)
  clear hx
  go_enter Try.func41, Try.ntmps41
  have tk1_ : True := trivial
  go_wp2_with (first | (go_at_call 118; refine (specFrom A c xs _ (HS.out.oldC HX.out.r) HX.out.l).mono ?_; rintro e_ w1 ⟨g, h, rfl, hs⟩; replace HS := sN1 HS hs; clear hs) | (go_at_call 121; clear tk1_; refine (HN.out g 0 h 2 _ (HS.out.at (i := 0) rfl) (HX.out.code HS.out (i := 0) rfl) (Nat.zero_le _) (by omega) (by omega)).mono ?_; rintro e_ w1 ⟨r, k1, h1, rfl, hk1, ⟨hr1, hr2⟩, hs⟩; replace HS : Aside0 (Mod _ _ _ [_]) := sM1 HS 0 [] rfl hs; clear hs) | (go_at_call 121; refine (HN.out g k1 h1 5 _ (HS.out.at (i := 0) rfl) (HX.out.code HS.out (i := 0) rfl) hk1 (by omega) (by omega)).mono ?_; rintro e_ w1 ⟨r2, k2, h2, rfl, hk2, hr3, hs⟩; replace HS : Aside0 (Mod _ _ _ [_]) := sM1 HS 0 [] rfl hs; clear hs))
  go_ret2
  exact ⟨_, _, rfl, HS.out.below⟩
set_option maxHeartbeats 8000000 in
theorem specDrawNumberOfWord (A : Option Addr) (c : Nat) (xs : List Int) (w : World) (hx : Bytes w A xs) :
    Calls Try.prog 39 #[.slice A xs.length c] w fun e w' => ∃ (a : Int) (s : ByteArray), e = .returned (.tuple #[.int .i64 a, .string s]) ∧ s.size ≤ 8 ∧ Below w.heap.size w w' := by
  have HX := Aside0.mk hx
  have hl := hx.l
  have HP := Aside0.mk (fun g k h B b W k1 k2 hk k3 k4 => specPick g A c xs.length k h B b [1, 2, 2, 3, 3, 4, 0] W k1 k2 hk hl k3 k4 (by decide) (by decide))
  have HW := Aside0.mk (fun g k h (n : Int) W k1 k2 hk h1 h2 => specWordyI g A c xs.length k h n 5 W k1 k2 hk hl h1 h2 (by decide) (by decide))
  have HS := Aside0.mk (Sep.refl w)
  clear hx
  go_enter Try.func39, Try.ntmps39
  go_wp2_with (first | (go_at_call 118; refine (specFrom A c xs _ (HS.out.oldC HX.out.r) HX.out.l).mono ?_; rintro e_ w1 ⟨g, h, rfl, hs⟩; replace HS := sN1 HS hs; clear hs) | ((with_reducible refine gate_dst (N := 9) rfl ?_); refine wpList_stp (fun K hK => ?_); refine stp_lit (Kd.int .i64) rfl 2 (by rfl) HS (xs := [1, 2, 2, 3, 3, 4, 0]) (inner := [.int .i64 1, .int .i64 2, .int .i64 2, .int .i64 3, .int .i64 3, .int .i64 4, .int .i64 0]) (by first | (go_simp; done) | (go_simp; rfl)) (fun W base ok => reps_ints W base ok _) (by simp) ?_; clear HS; intro A_l c_l w1 HS; refine hK _ _ ?_; clear hK K) | (go_at_call 119; refine (HP.out g 0 h A_l c_l _ (HS.out.at (i := 1) rfl) (HX.out.code HS.out (i := 1) rfl) (Nat.zero_le _) (HS.out.at (i := 0) rfl) (fun q h1 h2 => HS.out.disj (i := 0) (j := 1) rfl rfl (by decide) q h1 h2)).mono ?_; rintro e_ w1 ⟨r, k1, h1, rfl, hk1, hr, hs⟩; replace HS : Aside0 (Mod _ _ _ [_, _]) := sM1 HS 1 [0] rfl hs; clear hs; obtain ⟨hr0, hr4⟩ : 0 ≤ r ∧ r ≤ 4 := (by simp only [List.mem_cons, List.not_mem_nil, or_false] at hr; omega); clear hr; refine Hid.out ?_))
  refine Lib.hid ?_
  obtain rfl | rfl | rfl | rfl | rfl : r = 0 ∨ r = 1 ∨ r = 2 ∨ r = 3 ∨ r = 4 := by omega
  all_goals
    go_wp2_with (first | (go_at_call 126; refine (HW.out g k1 h1 _ _ (HS.out.at (i := 0) rfl) (HX.out.code HS.out (i := 0) rfl) hk1 (by first | decide | omega) (by first | decide | omega)).mono ?_; rintro e_ w1 ⟨t, k2, h2, rfl, hk2, ht, hs⟩; replace HS : Aside0 (Mod _ _ _ [_, _]) := sM1 HS 0 [1] rfl hs; clear hs))
    go_ret2
    exact ⟨_, t, rfl, ht, (HS.out.sel [] (by decide)).below⟩
set_option maxHeartbeats 8000000 in
theorem specDrawWordOfNumber (A : Option Addr) (c : Nat) (xs : List Int) (w : World) (hx : Bytes w A xs) :
    Calls Try.prog 35 #[.slice A xs.length c] w fun e w' => ∃ a b : Int, e = .returned (.tuple #[.int .i64 a, .int .i64 b]) ∧ b ≤ 4611686018427387904 ∧ Below w.heap.size w w' := by
  have HX := Aside0.mk hx
  have hl := hx.l
  have HP := Aside0.mk (fun g k h B b W k1 k2 hk k3 k4 => specPick g A c xs.length k h B b [1, 2, 2, 3, 3, 4, 0] W k1 k2 hk hl k3 k4 (by decide) (by decide))
  have HP3 := Aside0.mk (fun g k h B b (x y z : Int) W k1 k2 hk k3 k4 => specPick g A c xs.length k h B b [x, y, z] W k1 k2 hk hl k3 k4 (by simp) (by simp))
  have HN := Aside0.mk (fun g k h n W k1 k2 hk h1 => specNext g A c xs.length k h n W k1 k2 hk hl h1)
  have HE := Aside0.mk (fun g k h n W k1 k2 hk h1 h2 => specNear g A c xs.length k h n W k1 k2 hk hl h1 h2)
  have HS := Aside0.mk (Sep.refl w)
  clear hx
  go_enter Try.func35, Try.ntmps35
  have tk2_ : True := trivial
  have tk3_ : True := trivial
  go_wp2_with (first | (go_at_call 118; refine (specFrom A c xs _ (HS.out.oldC HX.out.r) HX.out.l).mono ?_; rintro e_ w1 ⟨g, h, rfl, hs⟩; replace HS := sN1 HS hs; clear hs) | ((with_reducible refine gate_dst (N := 8) rfl ?_); refine wpList_stp (fun K hK => ?_); refine stp_lit (Kd.int .i64) rfl 2 (by rfl) HS (xs := [1, 2, 2, 3, 3, 4, 0]) (inner := [.int .i64 1, .int .i64 2, .int .i64 2, .int .i64 3, .int .i64 3, .int .i64 4, .int .i64 0]) (by first | (go_simp; done) | (go_simp; rfl)) (fun W base ok => reps_ints W base ok _) (by simp) ?_; clear HS; intro A_l c_l w1 HS; refine hK _ _ ?_; clear hK K) | (go_at_call 119; clear tk2_; refine (HP.out g 0 h A_l c_l _ (HS.out.at (i := 1) rfl) (HX.out.code HS.out (i := 1) rfl) (Nat.zero_le _) (HS.out.at (i := 0) rfl) (fun q h1 h2 => HS.out.disj (i := 0) (j := 1) rfl rfl (by decide) q h1 h2)).mono ?_; rintro e_ w1 ⟨r, k1, h1, rfl, hk1, hr, hs⟩; replace HS : Aside0 (Mod _ _ _ [_, _]) := sM1 HS 1 [0] rfl hs; clear hs; clear hr) | (go_at_call 120; clear tk3_; refine (HN.out g k1 h1 8 _ (HS.out.at (i := 0) rfl) (HX.out.code HS.out (i := 0) rfl) hk1 (by omega)).mono ?_; rintro e_ w1 ⟨x, k2, h2, rfl, hk2, hr1, hr2, hs⟩; replace HS : Aside0 (Mod _ _ _ [_, _]) := sM1 HS 0 [1] rfl hs; clear hs; obtain ⟨hx1, hx2⟩ := hr1 (by omega); clear hr1 hr2) | (go_at_call 120; refine (HN.out g k2 h2 64 _ (HS.out.at (i := 0) rfl) (HX.out.code HS.out (i := 0) rfl) hk2 (by omega)).mono ?_; rintro e_ w1 ⟨y, k3, h3, rfl, hk3, hr1, hr2, hs⟩; replace HS : Aside0 (Mod _ _ _ [_, _]) := sM1 HS 0 [1] rfl hs; clear hs; obtain ⟨hy1, hy2⟩ := hr1 (by omega); clear hr1 hr2) | (go_at_call 121; refine (HE.out g k3 h3 364 _ (HS.out.at (i := 0) rfl) (HX.out.code HS.out (i := 0) rfl) hk3 (by omega) (by omega)).mono ?_; rintro e_ w1 ⟨z, k4, h4, rfl, hk4, hr3, hs⟩; replace HS : Aside0 (Mod _ _ _ [_, _]) := sM1 HS 0 [1] rfl hs; clear hs) | ((with_reducible refine gate_dst (N := 17) rfl ?_); refine wpList_stp (fun K hK => ?_); refine stp_lit (Kd.int .i64) rfl 2 (by rfl) HS (xs := [x, y, z]) (inner := [.int .i64 x, .int .i64 y, .int .i64 z]) (by first | (go_simp; done) | (go_simp; rfl)) (fun W base ok => reps_ints W base ok _) (by simp) ?_; clear HS; intro A_n c_n w1 HS; refine hK _ _ ?_; clear hK K) | (go_at_call 119; refine (HP3.out g k4 h4 A_n c_n x y z _ (HS.out.at (i := 1) rfl) (HX.out.code HS.out (i := 1) rfl) hk4 (HS.out.at (i := 0) rfl) (fun q h1 h2 => HS.out.disj (i := 0) (j := 1) rfl rfl (by decide) q h1 h2)).mono ?_; rintro e_ w1 ⟨r2, k5, h5, rfl, hk5, hr, hs⟩; replace HS : Aside0 (Mod _ _ _ [_, _, _]) := sM1 HS 1 [0, 2] rfl hs; clear hs; have hz : r2 ≤ 4611686018427387904 := (by simp only [List.mem_cons, List.not_mem_nil, or_false] at hr; omega); clear hr))
  go_ret2
  exact ⟨_, _, rfl, hz, (HS.out.sel [] (by decide)).below⟩
end Go.Proofs.Ytaheikponfmdiaa.H


