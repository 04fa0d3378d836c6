/- The law of ShuffleWords: its call returns true. Conditions: those of arguments that can be read. -/
import Derived.Test.YtaheikponfmdiaaKShWd
import Derived.Test.YtaheikponfmdiaaKLaw
namespace Go.Proofs.Ytaheikponfmdiaa.H
open Go.RowKit Go.Proofs.YtaheikponfmdiaaW.PrintWords Go.Proofs.YtaheikponfmdiaaW.PrintLast Go.Proofs.YtaheikponfmdiaaW.PrintMore Go.Proofs.Ytaheikponfmdiaa.M
set_option linter.unusedVariables false
set_option linter.unusedSimpArgs false
set_option maxRecDepth 100000
set_option maxHeartbeats 16000000 in
theorem lawShuffleWords (k0 : Int) (k1 : Int) (s0 : ByteArray) (s1 : ByteArray) (w : World) (hw0 : (Lit.int .i64 k0).wf = true) (hw1 : (Lit.int .i64 k1).wf = true) (hs0 : s0.size ≤ 9223372036854775807) (hs1 : s1.size ≤ 9223372036854775807) :
    Calls Try.prog 3 #[.int .i64 k0, .int .i64 k1, .string s0, .string s1] w fun e w' => e = .returned (.bool true) ∧ Below w.heap.size w w' := by
  have HS := Aside0.mk (Sep.refl w)
  have hne : ((swR k0 k1 s0 s1).2.2.2 != (swR k0 k1 s0 s1).2.2.2) = false := by simp
  by_cases hsz0 : ¬ s0.size ≤ 1048576
  · skip
    go_enter Try.func3, Try.ntmps3
    have hsz0' : ¬ ((s0.size : Int) ≤ 1048576) := by omega
    go_wp2
    go_ret
    exact ⟨rfl, HS.out.below⟩
  have hsz0' : (s0.size : Int) ≤ 1048576 := by omega
  have hs0_ : s0.size ≤ 1048576 := by omega
  by_cases hsz1 : ¬ s1.size ≤ 1048576
  · skip
    go_enter Try.func3, Try.ntmps3
    have hsz1' : ¬ ((s1.size : Int) ≤ 1048576) := by omega
    go_wp2
    go_ret
    exact ⟨rfl, HS.out.below⟩
  have hsz1' : (s1.size : Int) ≤ 1048576 := by omega
  have hs1_ : s1.size ≤ 1048576 := by omega
  obtain ⟨Q, eQ⟩ : ∃ K : Nat, K = 1 + 3 * (swR k0 k1 s0 s1).2.2.1.length := ⟨_, rfl⟩
  have EQ := Aside0.mk eQ
  have hnQ : ¬ ((Q : Int) < 0) := by omega
  have hnQ2 : ((Q : Int) != (Q : Int)) = false := by simp
  clear eQ
  go_enter Try.func3, Try.ntmps3
  have tk1_ : True := trivial
  have tk2_ : True := trivial
  have tk3_ : True := trivial
  go_wp2_with (first | (go_at_call 14; refine (specShuffleWords k0 k1 s0 s1 _ hs0_ hs1_).mono ?_; rintro e_ w1 ⟨C1, e1, rfl, hs⟩; replace HS := sN1 HS hs; clear hs) | ((with_reducible refine gate_dst (N := 9) rfl ?_); refine bxL 24 #[(.int .i64 0), (.int .i64 0), (.slice none 0 0)] HS ?_; clear HS; intro g_bw0 w1 hg_bw0 HS) | ((with_reducible refine gate_store (t := 24) (p := 9) rfl ?_); refine stL HS 0 0 #[.int .i64 (swR k0 k1 s0 s1).1, .int .i64 (swR k0 k1 s0 s1).2.1, .slice C1 (swR k0 k1 s0 s1).2.2.1.length e1] rfl rfl rfl rfl rfl ?_; clear HS; intro w1 HS) | (go_at_call 15; clear tk1_; refine (implShuffleWords k0 k1 s0 s1 _ hs0_ hs1_).mono ?_; rintro e_ w1 ⟨C2, e2, rfl, hs⟩; replace HS := sN1 HS hs; clear hs) | ((with_reducible refine gate_dst (N := 11) rfl ?_); refine bxL 24 #[(.int .i64 0), (.int .i64 0), (.slice none 0 0)] HS ?_; clear HS; intro g_bg0 w1 hg_bg0 HS) | ((with_reducible refine gate_store (t := 24) (p := 11) rfl ?_); refine stL HS 0 0 #[.int .i64 (swR k0 k1 s0 s1).1, .int .i64 (swR k0 k1 s0 s1).2.1, .slice C2 (swR k0 k1 s0 s1).2.2.1.length e2] rfl rfl rfl rfl rfl ?_; clear HS; intro w1 HS; have f1_ := HS.out.c 0 0 (v := .int .i64 (swR k0 k1 s0 s1).1) rfl rfl; have f2_ := HS.out.c 0 1 (v := .int .i64 (swR k0 k1 s0 s1).2.1) rfl rfl; have f3_ := HS.out.c 0 2 (v := .slice C2 (swR k0 k1 s0 s1).2.2.1.length e2) rfl rfl; have f4_ := HS.out.c 2 0 (v := .int .i64 (swR k0 k1 s0 s1).1) rfl rfl; have f5_ := HS.out.c 2 1 (v := .int .i64 (swR k0 k1 s0 s1).2.1) rfl rfl; have f6_ := HS.out.c 2 2 (v := .slice C1 (swR k0 k1 s0 s1).2.2.1.length e1) rfl rfl) | (go_at_call 16; clear tk2_; refine (lawEqSeries (swR k0 k1 s0 s1).1 (swR k0 k1 s0 s1).2.1 C2 C1 e2 e1 (swR k0 k1 s0 s1).2.2.1 _ (HS.out.reads 1 rfl) (HS.out.reads 3 rfl) sw_len).mono ?_; rintro e_ w1 ⟨rfl, hb⟩; replace HS := sB HS hb; clear hb f1_ f2_ f3_ f4_ f5_ f6_; have f1_ := HS.out.c 0 0 (v := .int .i64 (swR k0 k1 s0 s1).1) rfl rfl; have f2_ := HS.out.c 0 1 (v := .int .i64 (swR k0 k1 s0 s1).2.1) rfl rfl; have f3_ := HS.out.c 0 2 (v := .slice C2 (swR k0 k1 s0 s1).2.2.1.length e2) rfl rfl) | (go_at_call 17; refine (lawMarkO (swR k0 k1 s0 s1).1 (swR k0 k1 s0 s1).2.1 C2 e2 (swR k0 k1 s0 s1).2.2.1 1 Q EQ.out _ (HS.out.at (i := 1) rfl) sw_len (by decide) (by decide)).mono ?_; rintro e_ w1 ⟨rfl, hs⟩; replace HS : Aside0 (Mod _ _ _ [_, _, _, _]) := sM1 HS 1 [0, 2, 3] rfl hs; clear hs f1_ f2_ f3_; have f1_ := HS.out.c 1 0 (v := .int .i64 (swR k0 k1 s0 s1).1) rfl rfl; have f2_ := HS.out.c 1 1 (v := .int .i64 (swR k0 k1 s0 s1).2.1) rfl rfl; have f3_ := HS.out.c 1 2 (v := .slice C2 (swR k0 k1 s0 s1).2.2.1.length e2) rfl rfl) | (go_at_call 18; clear tk3_; refine (lawHeldO (swR k0 k1 s0 s1).1 (swR k0 k1 s0 s1).2.1 C2 e2 (swR k0 k1 s0 s1).2.2.1.length 1 Q EQ.out _ (HS.out.readsM 0 rfl) sw_len (by decide) (by decide)).mono ?_; rintro e_ w1 ⟨rfl, hb⟩; replace HS := sB HS hb; clear hb f1_ f2_ f3_) | (go_at_call 15; refine (implShuffleWords k0 k1 s0 s1 _ hs0_ hs1_).mono ?_; rintro e_ w1 ⟨C3, e3, rfl, hs⟩; replace HS := sN1 HS hs; clear hs) | ((with_reducible refine gate_dst (N := 15) rfl ?_); refine bxL 24 #[(.int .i64 0), (.int .i64 0), (.slice none 0 0)] HS ?_; clear HS; intro g_bh0 w1 hg_bh0 HS) | ((with_reducible refine gate_store (t := 24) (p := 15) rfl ?_); refine stL HS 0 0 #[.int .i64 (swR k0 k1 s0 s1).1, .int .i64 (swR k0 k1 s0 s1).2.1, .slice C3 (swR k0 k1 s0 s1).2.2.1.length e3] rfl rfl rfl rfl rfl ?_; clear HS; intro w1 HS; have f1_ := HS.out.c 0 0 (v := .int .i64 (swR k0 k1 s0 s1).1) rfl rfl; have f2_ := HS.out.c 0 1 (v := .int .i64 (swR k0 k1 s0 s1).2.1) rfl rfl; have f3_ := HS.out.c 0 2 (v := .slice C3 (swR k0 k1 s0 s1).2.2.1.length e3) rfl rfl; have f4_ := HS.out.c 4 0 (v := .int .i64 (swR k0 k1 s0 s1).1) rfl rfl; have f5_ := HS.out.c 4 1 (v := .int .i64 (swR k0 k1 s0 s1).2.1) rfl rfl; have f6_ := HS.out.c 4 2 (v := .slice C1 (swR k0 k1 s0 s1).2.2.1.length e1) rfl rfl) | (go_at_call 16; refine (lawEqSeries (swR k0 k1 s0 s1).1 (swR k0 k1 s0 s1).2.1 C3 C1 e3 e1 (swR k0 k1 s0 s1).2.2.1 _ (HS.out.reads 1 rfl) (HS.out.reads 5 rfl) sw_len).mono ?_; rintro e_ w1 ⟨rfl, hb⟩; replace HS := sB HS hb; clear hb f1_ f2_ f3_ f4_ f5_ f6_; have f1_ := HS.out.c 3 0 (v := .int .i64 (swR k0 k1 s0 s1).1) rfl rfl; have f2_ := HS.out.c 3 1 (v := .int .i64 (swR k0 k1 s0 s1).2.1) rfl rfl; have f3_ := HS.out.c 3 2 (v := .slice C2 (swR k0 k1 s0 s1).2.2.1.length e2) rfl rfl) | (go_at_call 18; refine (lawHeldO (swR k0 k1 s0 s1).1 (swR k0 k1 s0 s1).2.1 C2 e2 (swR k0 k1 s0 s1).2.2.1.length 1 Q EQ.out _ (HS.out.readsM 2 rfl) sw_len (by decide) (by decide)).mono ?_; rintro e_ w1 ⟨rfl, hb⟩; replace HS := sB HS hb; clear hb f1_ f2_ f3_))
  repeat (focus (go_ret; exact ⟨rfl, HS.out.below⟩; done))
end Go.Proofs.Ytaheikponfmdiaa.H


