/- Numbers near a range. Conditions: the bounds that stand in each statement. -/
import Derived.Test.YtaheikponfmdiaaKDraw
namespace Go.Proofs.Ytaheikponfmdiaa.H
open Go.RowKit Go.Proofs.YtaheikponfmdiaaW.PrintWords Go.Proofs.YtaheikponfmdiaaW.PrintLast Go.Proofs.YtaheikponfmdiaaW.PrintMore Go.Proofs.Ytaheikponfmdiaa.M
attribute [local go_sem] max2_int min2_int max_two min_two max_three min_three max_four min_four
set_option linter.unusedVariables false
set_option linter.unusedSimpArgs false
set_option maxRecDepth 100000
theorem ki_M (x : Int) (W : World) (base : Nat) (ok : Nat → Prop) : (Kd.int .i64).M W base ok x [.int .i64 x] := rfl
theorem reps_ints (W : World) (base : Nat) (ok : Nat → Prop) : ∀ l : List Int, Reps ((Kd.int .i64).M W base ok) (Kd.int .i64).sz l (l.map (Value.int .i64))
  | [] => Reps.none _ _
  | x :: l => Reps.one (ki_M x W base ok) (reps_ints W base ok l)
set_option maxHeartbeats 8000000 in
theorem specNear (g : Nat) (A : Option Addr) (c m k : Nat) (h n : Int) (w : World) (ho : (srcB g A m c k h).I w) (hcd : Code w g A m) (hk : k ≤ m) (hm : m ≤ 1048576) (hn0 : 0 ≤ n) (hn : n ≤ 1000000) :
    Calls Try.prog 121 #[.pointer (some ⟨g, 0, none⟩), .int .i64 n] w fun e w' => ∃ (r : Int) (k' : Nat) (h' : Int), e = .returned (.int .i64 r) ∧ k' ≤ m ∧ (-4611686018427387904 ≤ r ∧ r ≤ 1099511627776) ∧ Mod w w' (fun b => b = g) [srcB g A m c k' h'] := by
  have HS := Aside0.mk (Mod.own1 ho)
  have HC := Aside0.mk hcd
  have HN1 := Aside0.mk (fun W k1 k2 => specNext g A c m k h 14 W k1 k2 hk hm (by omega))
  have HN2 := Aside0.mk (fun k h W k1 k2 hk => specNext g A c m k h (n + 1) W k1 k2 hk hm (by omega))
  have HP := Aside0.mk (fun k h B b W k1 k2 hk k3 k4 => specPick g A c m k h B b [-1, n + 1, 1099511627776, -4611686018427387904] W k1 k2 hk hm k3 k4 (by simp) (by simp))
  clear ho hcd
  go_enter Try.func121, Try.ntmps121
  go_wp2_with (first | (go_at_call 120; refine (HN1.out _ (HS.out.at (i := 0) rfl) (HC.out.mod HS.out (fun _ h => h))).mono ?_; rintro e_ w1 ⟨r, k1, h1, rfl, hk1, hr1, hr2, hs⟩; replace HS : Aside0 (Mod _ _ _ [_]) := sM1 HS 0 [] rfl hs; clear hs; clear hr1 hr2; refine Hid.out ?_))
  refine Lib.hid ?_
  by_cases hr0 : r = 0
  · have hd0 : (r == 0) = true := by rw [hr0]; rfl
    clear hr0
    go_wp2_with (first | ((with_reducible refine gate_dst (N := 11) rfl ?_); refine wpList_stp (fun K hK => ?_); refine stp_lit (Kd.int .i64) rfl 2 (by rfl) HS (xs := [-1, n + 1, 1099511627776, -4611686018427387904]) (inner := [.int .i64 (-1), .int .i64 (n + 1), .int .i64 1099511627776, .int .i64 (-4611686018427387904)]) (by first | (go_simp; done) | (go_simp; rfl)) (fun W base ok => reps_ints W base ok _) (by simp) ?_; clear HS; intro A_l c_l w1 HS; refine hK _ _ ?_; clear hK K) | (go_at_call 119; refine (HP.out k1 h1 A_l c_l _ (HS.out.at (i := 1) rfl) (HC.out.mod HS.out (fun _ h => h)) hk1 (HS.out.at (i := 0) rfl) (fun q h1 h2 => HS.out.disj (i := 0) (j := 1) rfl rfl (by decide) q h1 h2)).mono ?_; rintro e_ w1 ⟨r2, k2, h2, rfl, hk2, hr3, hs⟩; replace HS : Aside0 (Mod _ _ _ [_, _]) := sM1 HS 1 [0] rfl hs; clear hs))
    go_ret
    refine ⟨r2, k2, h2, rfl, hk2, ?_, HS.out.sel [0] (by decide)⟩
    simp only [List.mem_cons, List.not_mem_nil, or_false] at hr3
    omega
  · have hd0 : (r == 0) = false := by simpa using hr0
    clear hr0
    go_wp2_with (first | (go_at_call 120; refine (HN2.out k1 h1 _ (HS.out.at (i := 0) rfl) (HC.out.mod HS.out (fun _ h => h)) hk1).mono ?_; rintro e_ w1 ⟨r2, k2, h2, rfl, hk2, hr3, hr4, hs⟩; replace HS : Aside0 (Mod _ _ _ [_]) := sM1 HS 0 [] rfl hs; clear hs))
    go_ret
    refine ⟨r2, k2, h2, rfl, hk2, ?_, HS.out⟩
    have := hr3 (by omega)
    omega
end Go.Proofs.Ytaheikponfmdiaa.H


