/- The law of HalfShuffle: its call returns true. Conditions: those of arguments that can be read. -/
import Derived.Test.YtaheikponfmdiaaKShufT
import Derived.Test.YtaheikponfmdiaaKLaw
namespace Go.Proofs.Ytaheikponfmdiaa.H
open Go.RowKit Go.Proofs.YtaheikponfmdiaaW.PrintWords Go.Proofs.YtaheikponfmdiaaW.PrintLast Go.Proofs.YtaheikponfmdiaaW.PrintMore Go.Proofs.Ytaheikponfmdiaa.M
set_option linter.unusedVariables false
set_option linter.unusedSimpArgs false
set_option maxRecDepth 100000
set_option maxHeartbeats 16000000 in
theorem lawHalfShuffle (d0 n0 : Int) (A0 : Option Addr) (c0 : Nat) (l0 : Ts) (d1 n1 : Int) (A1 : Option Addr) (c1 : Nat) (l1 : Ts) (w : World) (hl0 : l0.length ≤ c0) (hm0 : ∀ t ∈ l0, t.1.size ≤ 9223372036854775807) (hr0 : KT.C w A0 l0.length l0) (hl1 : l1.length ≤ c1) (hm1 : ∀ t ∈ l1, t.1.size ≤ 9223372036854775807) (hr1 : KT.C w A1 l1.length l1) :
    Calls Try.prog 8 #[.agg #[.int .i64 d0, .int .i64 n0, .slice A0 l0.length c0], .agg #[.int .i64 d1, .int .i64 n1, .slice A1 l1.length c1]] w fun e w' => e = .returned (.bool true) ∧ Below w.heap.size w w' := by
  have HR0 := Aside0.mk hr0
  have HM0 := Aside0.mk hm0
  have hlm0 : l0.length ≤ 9223372036854775807 := Kd.C_max hr0
  have HR1 := Aside0.mk hr1
  have HM1 := Aside0.mk hm1
  have hlm1 : l1.length ≤ 9223372036854775807 := Kd.C_max hr1
  have HS := Aside0.mk (Sep.refl w)
  have hne : ((twoR shH d0 n0 l0 d1 n1 l1).2.2.2 != (twoR shH d0 n0 l0 d1 n1 l1).2.2.2) = false := by simp
  clear hr0 hm0 hr1 hm1
  obtain ⟨K0, eK0⟩ : ∃ K : Nat, K = 1 + 3 * l0.length := ⟨_, rfl⟩
  have EK0 := Aside0.mk eK0
  have hbK0 : l0.length ≤ 1048576 → K0 ≤ 10000000 ∧ 0 < K0 := fun h => by omega
  have hnK0 : ¬ ((K0 : Int) < 0) := by omega
  clear eK0
  obtain ⟨K1, eK1⟩ : ∃ K : Nat, K = K0 + 3 * l1.length := ⟨_, rfl⟩
  have EK1 := Aside0.mk eK1
  have hnK1 : ¬ ((K1 : Int) < 0) := by omega
  clear eK1
  obtain ⟨Q, eQ⟩ : ∃ K : Nat, K = 1 + 3 * (twoR shH d0 n0 l0 d1 n1 l1).2.2.1.length := ⟨_, rfl⟩
  have EQ := Aside0.mk eQ
  have hnQ : ¬ ((Q : Int) < 0) := by omega
  have hnQ2 : ((Q : Int) != (Q : Int)) = false := by simp
  clear eQ
  go_enter Try.func8, Try.ntmps8
  have tk1_ : True := trivial
  go_wp2_with (first | ((with_reducible refine gate_dst (N := 2) rfl ?_); refine bxL 32 #[.int .i64 d0, .int .i64 n0, .slice A0 l0.length c0] HS ?_; clear HS; intro g_as0 w1 hg_as0 HS) | ((with_reducible refine gate_dst (N := 3) rfl ?_); refine bxL 32 #[.int .i64 d1, .int .i64 n1, .slice A1 l1.length c1] HS ?_; clear HS; intro g_as1 w1 hg_as1 HS; have f1_ := HS.out.c 1 0 (v := .int .i64 d0) rfl rfl; have f2_ := HS.out.c 1 1 (v := .int .i64 n0) rfl rfl; have f3_ := HS.out.c 1 2 (v := .slice A0 l0.length c0) rfl rfl) | (go_at_call 19; clear tk1_; refine (lawSzSeries d0 n0 A0 c0 l0 1048576 _ (HS.out.oldC HR0.out) hlm0 HM0.out (by omega) (by omega)).mono ?_; rintro e_ w1 ⟨v0, rfl, hv0, hu0, hz0, hb⟩; replace HS := sB HS hb; clear hb f1_ f2_ f3_; have f1_ := HS.out.c 0 0 (v := .int .i64 d1) rfl rfl; have f2_ := HS.out.c 0 1 (v := .int .i64 n1) rfl rfl; have f3_ := HS.out.c 0 2 (v := .slice A1 l1.length c1) rfl rfl) | (go_at_call 19; refine (lawSzSeries d1 n1 A1 c1 l1 v0 _ (HS.out.oldC HR1.out) hlm1 HM1.out (by omega) (by omega)).mono ?_; rintro e_ w1 ⟨v1, rfl, hv1, hu1, hz1, hb⟩; replace HS := sB HS hb; clear hb f1_ f2_ f3_))
  repeat (focus (go_ret; exact ⟨rfl, HS.out.below⟩; done))
  replace HS := sD HS
  apply region_told ((fun (A0_ : Option Addr → Nat → Option Addr → Nat → Option Addr → Nat → Nat → Act) (a' : Act) (w' : World) => ∃ (B1 : Option Addr) (b1 : Nat) (B2 : Option Addr) (b2 : Nat) (C1 : Option Addr) (e1 : Nat) (g_bw0 : Nat), a' = A0_ B1 b1 B2 b2 C1 e1 g_bw0 ∧ Aside0 (Mod w w' No [bx g_bw0 24 #[.int .i64 (twoR shH d0 n0 l0 d1 n1 l1).1, .int .i64 (twoR shH d0 n0 l0 d1 n1 l1).2.1, .slice C1 (twoR shH d0 n0 l0 d1 n1 l1).2.2.1.length e1], rowT C1 e1 (twoR shH d0 n0 l0 d1 n1 l1).2.2.1, rowT B2 b2 l1, rowT B1 b1 l0, bx g_as1 32 #[.int .i64 d1, .int .i64 n1, .slice A1 l1.length c1], bx g_as0 32 #[.int .i64 d0, .int .i64 n0, .slice A0 l0.length c0]])) _)
  case h1 =>
    refine ps (.t 0 (.t 2 (.two 1 8 (.two 3 8 (.two 4 8 (.p 5 (.p 6 (.p 7 (.e 8 (.d 9 (.p 10 .done)))))) (.e 4 (.p 5 (.p 6 (.p 7 (.d 9 (.p 10 .done))))))) (.e 3 (.e 4 (.p 5 (.p 6 (.p 7 (.d 9 (.p 10 .done)))))))) (.e 1 (.e 3 (.e 4 (.p 5 (.p 6 (.p 7 (.d 9 (.p 10 .done))))))))))) (fun w' => w'.cell? ⟨g_as0, 0, none⟩ = some (.int .i64 d0) ∧ w'.cell? ⟨g_as0, 1, none⟩ = some (.int .i64 n0) ∧ w'.cell? ⟨g_as0, 2, none⟩ = some (.slice A0 l0.length c0) ∧ w'.cell? ⟨g_as1, 0, none⟩ = some (.int .i64 d1) ∧ w'.cell? ⟨g_as1, 1, none⟩ = some (.int .i64 n1) ∧ w'.cell? ⟨g_as1, 2, none⟩ = some (.slice A1 l1.length c1)) [9] ⟨HS.out.c 1 0 (v := .int .i64 d0) rfl rfl, HS.out.c 1 1 (v := .int .i64 n0) rfl rfl, HS.out.c 1 2 (v := .slice A0 l0.length c0) rfl rfl, HS.out.c 0 0 (v := .int .i64 d1) rfl rfl, HS.out.c 0 1 (v := .int .i64 n1) rfl rfl, HS.out.c 0 2 (v := .slice A1 l1.length c1) rfl rfl⟩ (fun hHeld => ?_)
    repeat (first | ((with_reducible refine gate_p ?_); refine rp rfl rfl ?_) | ((with_reducible refine gate_t ?_); refine rt rfl rfl hHeld ?_))
    refine run_two ?_ ?_
    · skip
      refine run_e rfl (fun K hK => ?_)
      refine gc Try.func21 (lawSeries d0 n0 A0 c0 l0 _ (HS.out.oldC HR0.out) (bnd_iff.1 (hz0 (by omega))).1) rfl rfl ?_
      rintro e_ w1 ⟨B1, b1, rfl, hs⟩
      refine ⟨_, rfl, ?_⟩
      replace HS := sN1 HS hs
      refine ge hK ⟨HS.out.c 2 0 (v := .int .i64 d0) rfl rfl, HS.out.c 2 1 (v := .int .i64 n0) rfl rfl, HS.out.c 2 2 (v := .slice A0 l0.length c0) rfl rfl, HS.out.c 1 0 (v := .int .i64 d1) rfl rfl, HS.out.c 1 1 (v := .int .i64 n1) rfl rfl, HS.out.c 1 2 (v := .slice A1 l1.length c1) rfl rfl⟩ (fun hHeld => ?_)
      refine run_two ?_ ?_
      · skip
        refine run_e rfl (fun K hK => ?_)
        refine gc Try.func21 (lawSeries d1 n1 A1 c1 l1 _ (HS.out.oldC HR1.out) (bnd_iff.1 (hz1 (by omega))).1) rfl rfl ?_
        rintro e_ w1 ⟨B2, b2, rfl, hs⟩
        refine ⟨_, rfl, ?_⟩
        replace HS := sN1 HS hs
        refine ge hK ⟨HS.out.c 3 0 (v := .int .i64 d0) rfl rfl, HS.out.c 3 1 (v := .int .i64 n0) rfl rfl, HS.out.c 3 2 (v := .slice A0 l0.length c0) rfl rfl, HS.out.c 2 0 (v := .int .i64 d1) rfl rfl, HS.out.c 2 1 (v := .int .i64 n1) rfl rfl, HS.out.c 2 2 (v := .slice A1 l1.length c1) rfl rfl⟩ (fun hHeld => ?_)
        refine run_two ?_ ?_
        · skip
          refine run_e rfl (fun K hK => ?_)
          refine gc Try.func30 (specHalfShuffle d0 n0 B1 b1 l0 d1 n1 B2 b2 l1 _ (HS.out.reads 1 rfl) (HS.out.cap 1 rfl) (hz0 (by omega)) (HS.out.reads 0 rfl) (HS.out.cap 0 rfl) (hz1 (by omega))) rfl rfl ?_
          rintro e_ w1 ⟨C1, e1, rfl, hs⟩
          refine ⟨_, rfl, ?_⟩
          replace HS := sN1 HS hs
          refine ge hK ⟨HS.out.c 4 0 (v := .int .i64 d0) rfl rfl, HS.out.c 4 1 (v := .int .i64 n0) rfl rfl, HS.out.c 4 2 (v := .slice A0 l0.length c0) rfl rfl, HS.out.c 3 0 (v := .int .i64 d1) rfl rfl, HS.out.c 3 1 (v := .int .i64 n1) rfl rfl, HS.out.c 3 2 (v := .slice A1 l1.length c1) rfl rfl⟩ (fun hHeld => ?_)
          repeat (first | ((with_reducible refine gate_p ?_); refine rp rfl rfl ?_) | ((with_reducible refine gate_t ?_); refine rt rfl rfl hHeld ?_))
          refine run_e rfl (fun K hK => ?_)
          refine bx1 24 #[(.int .i64 0), (.int .i64 0), (.slice none 0 0)] HS ?_
          intro g_bw0 w1 hg_bw0 HS
          refine ge hK ⟨HS.out.c 5 0 (v := .int .i64 d0) rfl rfl, HS.out.c 5 1 (v := .int .i64 n0) rfl rfl, HS.out.c 5 2 (v := .slice A0 l0.length c0) rfl rfl, HS.out.c 4 0 (v := .int .i64 d1) rfl rfl, HS.out.c 4 1 (v := .int .i64 n1) rfl rfl, HS.out.c 4 2 (v := .slice A1 l1.length c1) rfl rfl⟩ (fun hHeld => ?_)
          refine run_d rfl (fun K hK => ?_)
          refine st1 HS 0 0 #[.int .i64 (twoR shH d0 n0 l0 d1 n1 l1).1, .int .i64 (twoR shH d0 n0 l0 d1 n1 l1).2.1, .slice C1 (twoR shH d0 n0 l0 d1 n1 l1).2.2.1.length e1] rfl rfl rfl rfl rfl ?_
          intro w1 HS
          refine goD hK rfl ?_
          repeat (first | ((with_reducible refine gate_p ?_); refine rp rfl rfl ?_) | ((with_reducible refine gate_t ?_); refine rt rfl rfl hHeld ?_))
          refine run_done ?_
          exact ⟨B1, b1, B2, b2, C1, e1, g_bw0, rfl, HS⟩
        · skip
          refine run_e rfl (fun K hK => ?_)
          refine bx1 24 #[(.int .i64 0), (.int .i64 0), (.slice none 0 0)] HS ?_
          intro g_bw0 w1 hg_bw0 HS
          refine ge hK ⟨HS.out.c 4 0 (v := .int .i64 d0) rfl rfl, HS.out.c 4 1 (v := .int .i64 n0) rfl rfl, HS.out.c 4 2 (v := .slice A0 l0.length c0) rfl rfl, HS.out.c 3 0 (v := .int .i64 d1) rfl rfl, HS.out.c 3 1 (v := .int .i64 n1) rfl rfl, HS.out.c 3 2 (v := .slice A1 l1.length c1) rfl rfl⟩ (fun hHeld => ?_)
          refine run_e rfl (fun K hK => ?_)
          refine gc Try.func30 (specHalfShuffle d0 n0 B1 b1 l0 d1 n1 B2 b2 l1 _ (HS.out.reads 2 rfl) (HS.out.cap 2 rfl) (hz0 (by omega)) (HS.out.reads 1 rfl) (HS.out.cap 1 rfl) (hz1 (by omega))) rfl rfl ?_
          rintro e_ w1 ⟨C1, e1, rfl, hs⟩
          refine ⟨_, rfl, ?_⟩
          replace HS := sN1 HS hs
          refine ge hK ⟨HS.out.c 5 0 (v := .int .i64 d0) rfl rfl, HS.out.c 5 1 (v := .int .i64 n0) rfl rfl, HS.out.c 5 2 (v := .slice A0 l0.length c0) rfl rfl, HS.out.c 4 0 (v := .int .i64 d1) rfl rfl, HS.out.c 4 1 (v := .int .i64 n1) rfl rfl, HS.out.c 4 2 (v := .slice A1 l1.length c1) rfl rfl⟩ (fun hHeld => ?_)
          repeat (first | ((with_reducible refine gate_p ?_); refine rp rfl rfl ?_) | ((with_reducible refine gate_t ?_); refine rt rfl rfl hHeld ?_))
          refine run_d rfl (fun K hK => ?_)
          refine st1 HS 1 0 #[.int .i64 (twoR shH d0 n0 l0 d1 n1 l1).1, .int .i64 (twoR shH d0 n0 l0 d1 n1 l1).2.1, .slice C1 (twoR shH d0 n0 l0 d1 n1 l1).2.2.1.length e1] rfl rfl rfl rfl rfl ?_
          intro w1 HS
          refine goD hK rfl ?_
          repeat (first | ((with_reducible refine gate_p ?_); refine rp rfl rfl ?_) | ((with_reducible refine gate_t ?_); refine rt rfl rfl hHeld ?_))
          refine run_done ?_
          have n_ := HS.out.sel [1, 0, 2, 3, 4, 5] (by decide)
          simp only [List.filterMap_cons, List.filterMap_nil, List.getElem?_cons_zero, List.getElem?_cons_succ] at n_
          exact ⟨B1, b1, B2, b2, C1, e1, g_bw0, rfl, ⟨n_⟩⟩
      · skip
        refine run_e rfl (fun K hK => ?_)
        refine bx1 24 #[(.int .i64 0), (.int .i64 0), (.slice none 0 0)] HS ?_
        intro g_bw0 w1 hg_bw0 HS
        refine ge hK ⟨HS.out.c 3 0 (v := .int .i64 d0) rfl rfl, HS.out.c 3 1 (v := .int .i64 n0) rfl rfl, HS.out.c 3 2 (v := .slice A0 l0.length c0) rfl rfl, HS.out.c 2 0 (v := .int .i64 d1) rfl rfl, HS.out.c 2 1 (v := .int .i64 n1) rfl rfl, HS.out.c 2 2 (v := .slice A1 l1.length c1) rfl rfl⟩ (fun hHeld => ?_)
        refine run_e rfl (fun K hK => ?_)
        refine gc Try.func21 (lawSeries d1 n1 A1 c1 l1 _ (HS.out.oldC HR1.out) (bnd_iff.1 (hz1 (by omega))).1) rfl rfl ?_
        rintro e_ w1 ⟨B2, b2, rfl, hs⟩
        refine ⟨_, rfl, ?_⟩
        replace HS := sN1 HS hs
        refine ge hK ⟨HS.out.c 4 0 (v := .int .i64 d0) rfl rfl, HS.out.c 4 1 (v := .int .i64 n0) rfl rfl, HS.out.c 4 2 (v := .slice A0 l0.length c0) rfl rfl, HS.out.c 3 0 (v := .int .i64 d1) rfl rfl, HS.out.c 3 1 (v := .int .i64 n1) rfl rfl, HS.out.c 3 2 (v := .slice A1 l1.length c1) rfl rfl⟩ (fun hHeld => ?_)
        refine run_e rfl (fun K hK => ?_)
        refine gc Try.func30 (specHalfShuffle d0 n0 B1 b1 l0 d1 n1 B2 b2 l1 _ (HS.out.reads 2 rfl) (HS.out.cap 2 rfl) (hz0 (by omega)) (HS.out.reads 0 rfl) (HS.out.cap 0 rfl) (hz1 (by omega))) rfl rfl ?_
        rintro e_ w1 ⟨C1, e1, rfl, hs⟩
        refine ⟨_, rfl, ?_⟩
        replace HS := sN1 HS hs
        refine ge hK ⟨HS.out.c 5 0 (v := .int .i64 d0) rfl rfl, HS.out.c 5 1 (v := .int .i64 n0) rfl rfl, HS.out.c 5 2 (v := .slice A0 l0.length c0) rfl rfl, HS.out.c 4 0 (v := .int .i64 d1) rfl rfl, HS.out.c 4 1 (v := .int .i64 n1) rfl rfl, HS.out.c 4 2 (v := .slice A1 l1.length c1) rfl rfl⟩ (fun hHeld => ?_)
        repeat (first | ((with_reducible refine gate_p ?_); refine rp rfl rfl ?_) | ((with_reducible refine gate_t ?_); refine rt rfl rfl hHeld ?_))
        refine run_d rfl (fun K hK => ?_)
        refine st1 HS 2 0 #[.int .i64 (twoR shH d0 n0 l0 d1 n1 l1).1, .int .i64 (twoR shH d0 n0 l0 d1 n1 l1).2.1, .slice C1 (twoR shH d0 n0 l0 d1 n1 l1).2.2.1.length e1] rfl rfl rfl rfl rfl ?_
        intro w1 HS
        refine goD hK rfl ?_
        repeat (first | ((with_reducible refine gate_p ?_); refine rp rfl rfl ?_) | ((with_reducible refine gate_t ?_); refine rt rfl rfl hHeld ?_))
        refine run_done ?_
        have n_ := HS.out.sel [2, 0, 1, 3, 4, 5] (by decide)
        simp only [List.filterMap_cons, List.filterMap_nil, List.getElem?_cons_zero, List.getElem?_cons_succ] at n_
        exact ⟨B1, b1, B2, b2, C1, e1, g_bw0, rfl, ⟨n_⟩⟩
    · skip
      refine run_e rfl (fun K hK => ?_)
      refine bx1 24 #[(.int .i64 0), (.int .i64 0), (.slice none 0 0)] HS ?_
      intro g_bw0 w1 hg_bw0 HS
      refine ge hK ⟨HS.out.c 2 0 (v := .int .i64 d0) rfl rfl, HS.out.c 2 1 (v := .int .i64 n0) rfl rfl, HS.out.c 2 2 (v := .slice A0 l0.length c0) rfl rfl, HS.out.c 1 0 (v := .int .i64 d1) rfl rfl, HS.out.c 1 1 (v := .int .i64 n1) rfl rfl, HS.out.c 1 2 (v := .slice A1 l1.length c1) rfl rfl⟩ (fun hHeld => ?_)
      refine run_e rfl (fun K hK => ?_)
      refine gc Try.func21 (lawSeries d0 n0 A0 c0 l0 _ (HS.out.oldC HR0.out) (bnd_iff.1 (hz0 (by omega))).1) rfl rfl ?_
      rintro e_ w1 ⟨B1, b1, rfl, hs⟩
      refine ⟨_, rfl, ?_⟩
      replace HS := sN1 HS hs
      refine ge hK ⟨HS.out.c 3 0 (v := .int .i64 d0) rfl rfl, HS.out.c 3 1 (v := .int .i64 n0) rfl rfl, HS.out.c 3 2 (v := .slice A0 l0.length c0) rfl rfl, HS.out.c 2 0 (v := .int .i64 d1) rfl rfl, HS.out.c 2 1 (v := .int .i64 n1) rfl rfl, HS.out.c 2 2 (v := .slice A1 l1.length c1) rfl rfl⟩ (fun hHeld => ?_)
      refine run_e rfl (fun K hK => ?_)
      refine gc Try.func21 (lawSeries d1 n1 A1 c1 l1 _ (HS.out.oldC HR1.out) (bnd_iff.1 (hz1 (by omega))).1) rfl rfl ?_
      rintro e_ w1 ⟨B2, b2, rfl, hs⟩
      refine ⟨_, rfl, ?_⟩
      replace HS := sN1 HS hs
      refine ge hK ⟨HS.out.c 4 0 (v := .int .i64 d0) rfl rfl, HS.out.c 4 1 (v := .int .i64 n0) rfl rfl, HS.out.c 4 2 (v := .slice A0 l0.length c0) rfl rfl, HS.out.c 3 0 (v := .int .i64 d1) rfl rfl, HS.out.c 3 1 (v := .int .i64 n1) rfl rfl, HS.out.c 3 2 (v := .slice A1 l1.length c1) rfl rfl⟩ (fun hHeld => ?_)
      refine run_e rfl (fun K hK => ?_)
      refine gc Try.func30 (specHalfShuffle d0 n0 B1 b1 l0 d1 n1 B2 b2 l1 _ (HS.out.reads 1 rfl) (HS.out.cap 1 rfl) (hz0 (by omega)) (HS.out.reads 0 rfl) (HS.out.cap 0 rfl) (hz1 (by omega))) rfl rfl ?_
      rintro e_ w1 ⟨C1, e1, rfl, hs⟩
      refine ⟨_, rfl, ?_⟩
      replace HS := sN1 HS hs
      refine ge hK ⟨HS.out.c 5 0 (v := .int .i64 d0) rfl rfl, HS.out.c 5 1 (v := .int .i64 n0) rfl rfl, HS.out.c 5 2 (v := .slice A0 l0.length c0) rfl rfl, HS.out.c 4 0 (v := .int .i64 d1) rfl rfl, HS.out.c 4 1 (v := .int .i64 n1) rfl rfl, HS.out.c 4 2 (v := .slice A1 l1.length c1) rfl rfl⟩ (fun hHeld => ?_)
      repeat (first | ((with_reducible refine gate_p ?_); refine rp rfl rfl ?_) | ((with_reducible refine gate_t ?_); refine rt rfl rfl hHeld ?_))
      refine run_d rfl (fun K hK => ?_)
      refine st1 HS 3 0 #[.int .i64 (twoR shH d0 n0 l0 d1 n1 l1).1, .int .i64 (twoR shH d0 n0 l0 d1 n1 l1).2.1, .slice C1 (twoR shH d0 n0 l0 d1 n1 l1).2.2.1.length e1] rfl rfl rfl rfl rfl ?_
      intro w1 HS
      refine goD hK rfl ?_
      repeat (first | ((with_reducible refine gate_p ?_); refine rp rfl rfl ?_) | ((with_reducible refine gate_t ?_); refine rt rfl rfl hHeld ?_))
      refine run_done ?_
      have n_ := HS.out.sel [3, 0, 1, 2, 4, 5] (by decide)
      simp only [List.filterMap_cons, List.filterMap_nil, List.getElem?_cons_zero, List.getElem?_cons_succ] at n_
      exact ⟨B1, b1, B2, b2, C1, e1, g_bw0, rfl, ⟨n_⟩⟩
  clear HS
  rintro a_ w1 ⟨B1, b1, B2, b2, C1, e1, g_bw0, rfl, HS⟩
  have f1_ := HS.out.c 5 0 (v := .int .i64 d0) rfl rfl
  have f2_ := HS.out.c 5 1 (v := .int .i64 n0) rfl rfl
  have f3_ := HS.out.c 5 2 (v := .slice A0 l0.length c0) rfl rfl
  have tk2_ : True := trivial
  go_wp2_with (first | (go_at_call 21; clear tk2_; refine (lawSeries d0 n0 A0 c0 l0 _ (HS.out.oldC HR0.out) (bnd_iff.1 (hz0 (by omega))).1).mono ?_; rintro e_ w1 ⟨B3, b3, rfl, hs⟩; replace HS := sN1 HS hs; clear hs f1_ f2_ f3_) | ((with_reducible refine gate_dst (N := 8) rfl ?_); refine bxL 24 #[(.int .i64 0), (.int .i64 0), (.slice none 0 0)] HS ?_; clear HS; intro g_bx0 w1 hg_bx0 HS) | ((with_reducible refine gate_store (t := 24) (p := 8) rfl ?_); refine stL HS 0 0 #[.int .i64 d0, .int .i64 n0, .slice B3 l0.length b3] rfl rfl rfl rfl rfl ?_; clear HS; intro w1 HS; have f1_ := HS.out.c 6 0 (v := .int .i64 d1) rfl rfl; have f2_ := HS.out.c 6 1 (v := .int .i64 n1) rfl rfl; have f3_ := HS.out.c 6 2 (v := .slice A1 l1.length c1) rfl rfl) | (go_at_call 21; refine (lawSeries d1 n1 A1 c1 l1 _ (HS.out.oldC HR1.out) (bnd_iff.1 (hz1 (by omega))).1).mono ?_; rintro e_ w1 ⟨B4, b4, rfl, hs⟩; replace HS := sN1 HS hs; clear hs f1_ f2_ f3_) | ((with_reducible refine gate_dst (N := 9) rfl ?_); refine bxL 24 #[(.int .i64 0), (.int .i64 0), (.slice none 0 0)] HS ?_; clear HS; intro g_bx1 w1 hg_bx1 HS) | ((with_reducible refine gate_store (t := 24) (p := 9) rfl ?_); refine stL HS 0 0 #[.int .i64 d1, .int .i64 n1, .slice B4 l1.length b4] rfl rfl rfl rfl rfl ?_; clear HS; intro w1 HS; have f1_ := HS.out.c 2 0 (v := .int .i64 d0) rfl rfl; have f2_ := HS.out.c 2 1 (v := .int .i64 n0) rfl rfl; have f3_ := HS.out.c 2 2 (v := .slice B3 l0.length b3) rfl rfl; have f4_ := HS.out.c 0 0 (v := .int .i64 d1) rfl rfl; have f5_ := HS.out.c 0 1 (v := .int .i64 n1) rfl rfl; have f6_ := HS.out.c 0 2 (v := .slice B4 l1.length b4) rfl rfl) | (go_at_call 31; refine (implHalfShuffle d0 n0 B3 b3 l0 d1 n1 B4 b4 l1 _ (HS.out.reads 3 rfl) (HS.out.cap 3 rfl) (hz0 (by omega)) (HS.out.reads 1 rfl) (HS.out.cap 1 rfl) (hz1 (by omega))).mono ?_; rintro e_ w1 ⟨C2, e2, rfl, hs⟩; replace HS := sN1 HS hs; clear hs f1_ f2_ f3_ f4_ f5_ f6_) | ((with_reducible refine gate_dst (N := 10) rfl ?_); refine bxL 24 #[(.int .i64 0), (.int .i64 0), (.slice none 0 0)] HS ?_; clear HS; intro g_bg0 w1 hg_bg0 HS) | ((with_reducible refine gate_store (t := 24) (p := 10) rfl ?_); refine stL HS 0 0 #[.int .i64 (twoR shH d0 n0 l0 d1 n1 l1).1, .int .i64 (twoR shH d0 n0 l0 d1 n1 l1).2.1, .slice C2 (twoR shH d0 n0 l0 d1 n1 l1).2.2.1.length e2] rfl rfl rfl rfl rfl ?_; clear HS; intro w1 HS; have f1_ := HS.out.c 0 0 (v := .int .i64 (twoR shH d0 n0 l0 d1 n1 l1).1) rfl rfl; have f2_ := HS.out.c 0 1 (v := .int .i64 (twoR shH d0 n0 l0 d1 n1 l1).2.1) rfl rfl; have f3_ := HS.out.c 0 2 (v := .slice C2 (twoR shH d0 n0 l0 d1 n1 l1).2.2.1.length e2) rfl rfl; have f4_ := HS.out.c 6 0 (v := .int .i64 (twoR shH d0 n0 l0 d1 n1 l1).1) rfl rfl; have f5_ := HS.out.c 6 1 (v := .int .i64 (twoR shH d0 n0 l0 d1 n1 l1).2.1) rfl rfl; have f6_ := HS.out.c 6 2 (v := .slice C1 (twoR shH d0 n0 l0 d1 n1 l1).2.2.1.length e1) rfl rfl) | (go_at_call 16; refine (lawEqSeries (twoR shH d0 n0 l0 d1 n1 l1).1 (twoR shH d0 n0 l0 d1 n1 l1).2.1 C2 C1 e2 e1 (twoR shH d0 n0 l0 d1 n1 l1).2.2.1 _ (HS.out.reads 1 rfl) (HS.out.reads 7 rfl) (two_len shH_ex)).mono ?_; rintro e_ w1 ⟨rfl, hb⟩; replace HS := sB HS hb; clear hb f1_ f2_ f3_ f4_ f5_ f6_))
  repeat (focus (go_ret; exact ⟨rfl, HS.out.below⟩; done))
  replace HS := sD HS
  refine ps (.t 0 (.t 1 (.e 2 (.d 3 (.p 4 .done))))) (fun w' => w'.cell? ⟨g_bx0, 0, none⟩ = some (.int .i64 d0) ∧ w'.cell? ⟨g_bx0, 1, none⟩ = some (.int .i64 n0) ∧ w'.cell? ⟨g_bx0, 2, none⟩ = some (.slice B3 l0.length b3) ∧ w'.cell? ⟨g_as0, 0, none⟩ = some (.int .i64 d0) ∧ w'.cell? ⟨g_as0, 1, none⟩ = some (.int .i64 n0) ∧ w'.cell? ⟨g_as0, 2, none⟩ = some (.slice A0 l0.length c0)) [3] ⟨HS.out.c 4 0 (v := .int .i64 d0) rfl rfl, HS.out.c 4 1 (v := .int .i64 n0) rfl rfl, HS.out.c 4 2 (v := .slice B3 l0.length b3) rfl rfl, HS.out.c 11 0 (v := .int .i64 d0) rfl rfl, HS.out.c 11 1 (v := .int .i64 n0) rfl rfl, HS.out.c 11 2 (v := .slice A0 l0.length c0) rfl rfl⟩ (fun hHeld => ?_)
  repeat (first | ((with_reducible refine gate_p ?_); refine rp rfl rfl ?_) | ((with_reducible refine gate_t ?_); refine rt rfl rfl hHeld ?_))
  refine run_e rfl (fun K hK => ?_)
  refine gc Try.func21 (lawSeries d0 n0 A0 c0 l0 _ (HS.out.oldC HR0.out) (bnd_iff.1 (hz0 (by omega))).1) rfl rfl ?_
  rintro e_ w1 ⟨B5, b5, rfl, hs⟩
  refine ⟨_, rfl, ?_⟩
  replace HS := sN1 HS hs
  clear hs
  refine ge hK ⟨HS.out.c 5 0 (v := .int .i64 d0) rfl rfl, HS.out.c 5 1 (v := .int .i64 n0) rfl rfl, HS.out.c 5 2 (v := .slice B3 l0.length b3) rfl rfl, HS.out.c 12 0 (v := .int .i64 d0) rfl rfl, HS.out.c 12 1 (v := .int .i64 n0) rfl rfl, HS.out.c 12 2 (v := .slice A0 l0.length c0) rfl rfl⟩ (fun hHeld => ?_)
  clear hK K
  refine run_d rfl (fun K hK => ?_)
  refine gc Try.func16 (lawEqSeries d0 n0 B3 B5 b3 b5 l0 _ (HS.out.reads 6 rfl) (HS.out.reads 0 rfl) (bnd_iff.1 (hz0 (by omega))).1) rfl rfl ?_
  rintro e_ w1 ⟨rfl, hb⟩
  refine ⟨_, rfl, ?_⟩
  replace HS := sB HS hb
  clear hb
  refine gd hK ?_
  clear hK K
  repeat (first | ((with_reducible refine gate_p ?_); refine rp rfl rfl ?_) | ((with_reducible refine gate_t ?_); refine rt rfl rfl hHeld ?_))
  refine run_done ?_
  clear hHeld
  go_wp2
  repeat (focus (go_ret; exact ⟨rfl, HS.out.below⟩; done))
  replace HS := sD HS
  refine ps (.t 0 (.t 1 (.e 2 (.d 3 (.p 4 .done))))) (fun w' => w'.cell? ⟨g_bx1, 0, none⟩ = some (.int .i64 d1) ∧ w'.cell? ⟨g_bx1, 1, none⟩ = some (.int .i64 n1) ∧ w'.cell? ⟨g_bx1, 2, none⟩ = some (.slice B4 l1.length b4) ∧ w'.cell? ⟨g_as1, 0, none⟩ = some (.int .i64 d1) ∧ w'.cell? ⟨g_as1, 1, none⟩ = some (.int .i64 n1) ∧ w'.cell? ⟨g_as1, 2, none⟩ = some (.slice A1 l1.length c1)) [3] ⟨HS.out.c 3 0 (v := .int .i64 d1) rfl rfl, HS.out.c 3 1 (v := .int .i64 n1) rfl rfl, HS.out.c 3 2 (v := .slice B4 l1.length b4) rfl rfl, HS.out.c 11 0 (v := .int .i64 d1) rfl rfl, HS.out.c 11 1 (v := .int .i64 n1) rfl rfl, HS.out.c 11 2 (v := .slice A1 l1.length c1) rfl rfl⟩ (fun hHeld => ?_)
  repeat (first | ((with_reducible refine gate_p ?_); refine rp rfl rfl ?_) | ((with_reducible refine gate_t ?_); refine rt rfl rfl hHeld ?_))
  refine run_e rfl (fun K hK => ?_)
  refine gc Try.func21 (lawSeries d1 n1 A1 c1 l1 _ (HS.out.oldC HR1.out) (bnd_iff.1 (hz1 (by omega))).1) rfl rfl ?_
  rintro e_ w1 ⟨B6, b6, rfl, hs⟩
  refine ⟨_, rfl, ?_⟩
  replace HS := sN1 HS hs
  clear hs
  refine ge hK ⟨HS.out.c 4 0 (v := .int .i64 d1) rfl rfl, HS.out.c 4 1 (v := .int .i64 n1) rfl rfl, HS.out.c 4 2 (v := .slice B4 l1.length b4) rfl rfl, HS.out.c 12 0 (v := .int .i64 d1) rfl rfl, HS.out.c 12 1 (v := .int .i64 n1) rfl rfl, HS.out.c 12 2 (v := .slice A1 l1.length c1) rfl rfl⟩ (fun hHeld => ?_)
  clear hK K
  refine run_d rfl (fun K hK => ?_)
  refine gc Try.func16 (lawEqSeries d1 n1 B4 B6 b4 b6 l1 _ (HS.out.reads 5 rfl) (HS.out.reads 0 rfl) (bnd_iff.1 (hz1 (by omega))).1) rfl rfl ?_
  rintro e_ w1 ⟨rfl, hb⟩
  refine ⟨_, rfl, ?_⟩
  replace HS := sB HS hb
  clear hb
  refine gd hK ?_
  clear hK K
  repeat (first | ((with_reducible refine gate_p ?_); refine rp rfl rfl ?_) | ((with_reducible refine gate_t ?_); refine rt rfl rfl hHeld ?_))
  refine run_done ?_
  clear hHeld
  have f1_ := HS.out.c 6 0 (v := .int .i64 d0) rfl rfl
  have f2_ := HS.out.c 6 1 (v := .int .i64 n0) rfl rfl
  have f3_ := HS.out.c 6 2 (v := .slice B3 l0.length b3) rfl rfl
  have tk3_ : True := trivial
  have tk4_ : True := trivial
  go_wp2_with (first | (go_at_call 17; clear tk3_; refine (lawMarkO d0 n0 B3 b3 l0 1 K0 EK0.out _ (HS.out.at (i := 7) rfl) (bnd_iff.1 (hz0 (by omega))).1 (by decide) (by decide)).mono ?_; rintro e_ w1 ⟨rfl, hs⟩; replace HS : Aside0 (Mod _ _ _ [_, _, _, _, _, _, _, _, _, _, _, _, _, _]) := sM1 HS 7 [0, 1, 2, 3, 4, 5, 6, 8, 9, 10, 11, 12, 13] rfl hs; clear hs f1_ f2_ f3_; have f1_ := HS.out.c 5 0 (v := .int .i64 d1) rfl rfl; have f2_ := HS.out.c 5 1 (v := .int .i64 n1) rfl rfl; have f3_ := HS.out.c 5 2 (v := .slice B4 l1.length b4) rfl rfl) | (go_at_call 17; clear tk4_; refine (lawMarkO d1 n1 B4 b4 l1 K0 K1 EK1.out _ (HS.out.at (i := 6) rfl) (bnd_iff.1 (hz1 (by omega))).1 ((hbK0 (bnd_iff.1 (hz0 (by omega))).1).2) ((hbK0 (bnd_iff.1 (hz0 (by omega))).1).1)).mono ?_; rintro e_ w1 ⟨rfl, hs⟩; replace HS : Aside0 (Mod _ _ _ [_, _, _, _, _, _, _, _, _, _, _, _, _, _]) := sM1 HS 6 [0, 1, 2, 3, 4, 5, 7, 8, 9, 10, 11, 12, 13] rfl hs; clear hs f1_ f2_ f3_; have f1_ := HS.out.c 4 0 (v := .int .i64 (twoR shH d0 n0 l0 d1 n1 l1).1) rfl rfl; have f2_ := HS.out.c 4 1 (v := .int .i64 (twoR shH d0 n0 l0 d1 n1 l1).2.1) rfl rfl; have f3_ := HS.out.c 4 2 (v := .slice C2 (twoR shH d0 n0 l0 d1 n1 l1).2.2.1.length e2) rfl rfl; have f4_ := HS.out.c 8 0 (v := .int .i64 (twoR shH d0 n0 l0 d1 n1 l1).1) rfl rfl; have f5_ := HS.out.c 8 1 (v := .int .i64 (twoR shH d0 n0 l0 d1 n1 l1).2.1) rfl rfl; have f6_ := HS.out.c 8 2 (v := .slice C1 (twoR shH d0 n0 l0 d1 n1 l1).2.2.1.length e1) rfl rfl) | (go_at_call 16; refine (lawEqSeries (twoR shH d0 n0 l0 d1 n1 l1).1 (twoR shH d0 n0 l0 d1 n1 l1).2.1 C2 C1 e2 e1 (twoR shH d0 n0 l0 d1 n1 l1).2.2.1 _ (HS.out.reads 5 rfl) (HS.out.reads 9 rfl) (two_len shH_ex)).mono ?_; rintro e_ w1 ⟨rfl, hb⟩; replace HS := sB HS hb; clear hb f1_ f2_ f3_ f4_ f5_ f6_; have f1_ := HS.out.c 4 0 (v := .int .i64 (twoR shH d0 n0 l0 d1 n1 l1).1) rfl rfl; have f2_ := HS.out.c 4 1 (v := .int .i64 (twoR shH d0 n0 l0 d1 n1 l1).2.1) rfl rfl; have f3_ := HS.out.c 4 2 (v := .slice C2 (twoR shH d0 n0 l0 d1 n1 l1).2.2.1.length e2) rfl rfl) | (go_at_call 17; refine (lawMarkO (twoR shH d0 n0 l0 d1 n1 l1).1 (twoR shH d0 n0 l0 d1 n1 l1).2.1 C2 e2 (twoR shH d0 n0 l0 d1 n1 l1).2.2.1 1 Q EQ.out _ (HS.out.at (i := 5) rfl) (two_len shH_ex) (by decide) (by decide)).mono ?_; rintro e_ w1 ⟨rfl, hs⟩; replace HS : Aside0 (Mod _ _ _ [_, _, _, _, _, _, _, _, _, _, _, _, _, _]) := sM1 HS 5 [0, 1, 2, 3, 4, 6, 7, 8, 9, 10, 11, 12, 13] rfl hs; clear hs f1_ f2_ f3_; have f1_ := HS.out.c 5 0 (v := .int .i64 (twoR shH d0 n0 l0 d1 n1 l1).1) rfl rfl; have f2_ := HS.out.c 5 1 (v := .int .i64 (twoR shH d0 n0 l0 d1 n1 l1).2.1) rfl rfl; have f3_ := HS.out.c 5 2 (v := .slice C2 (twoR shH d0 n0 l0 d1 n1 l1).2.2.1.length e2) rfl rfl) | (go_at_call 18; refine (lawHeldO (twoR shH d0 n0 l0 d1 n1 l1).1 (twoR shH d0 n0 l0 d1 n1 l1).2.1 C2 e2 (twoR shH d0 n0 l0 d1 n1 l1).2.2.1.length 1 Q EQ.out _ (HS.out.readsM 0 rfl) (two_len shH_ex) (by decide) (by decide)).mono ?_; rintro e_ w1 ⟨rfl, hb⟩; replace HS := sB HS hb; clear hb f1_ f2_ f3_))
  repeat (focus (go_ret; exact ⟨rfl, HS.out.below⟩; done))
  replace HS := sD HS
  apply region_told ((fun (A0_ : Option Addr → Nat → Option Addr → Nat → Option Addr → Nat → Nat → Act) (a' : Act) (w' : World) => ∃ (B7 : Option Addr) (b7 : Nat) (B8 : Option Addr) (b8 : Nat) (C3 : Option Addr) (e3 : Nat) (g_bh0 : Nat), a' = A0_ B7 b7 B8 b8 C3 e3 g_bh0 ∧ Aside0 (Mod w w' No [bx g_bh0 24 #[.int .i64 (twoR shH d0 n0 l0 d1 n1 l1).1, .int .i64 (twoR shH d0 n0 l0 d1 n1 l1).2.1, .slice C3 (twoR shH d0 n0 l0 d1 n1 l1).2.2.1.length e3], rowT C3 e3 (twoR shH d0 n0 l0 d1 n1 l1).2.2.1, rowT B8 b8 l1, rowT B7 b7 l0, rowM C2 e2 1 (twoR shH d0 n0 l0 d1 n1 l1).2.2.1.length, rowM B4 b4 K0 l1.length, rowM B3 b3 1 l0.length, rowT B6 b6 l1, rowT B5 b5 l0, bx g_bg0 24 #[.int .i64 (twoR shH d0 n0 l0 d1 n1 l1).1, .int .i64 (twoR shH d0 n0 l0 d1 n1 l1).2.1, .slice C2 (twoR shH d0 n0 l0 d1 n1 l1).2.2.1.length e2], bx g_bx1 24 #[.int .i64 d1, .int .i64 n1, .slice B4 l1.length b4], bx g_bx0 24 #[.int .i64 d0, .int .i64 n0, .slice B3 l0.length b3], bx g_bw0 24 #[.int .i64 (twoR shH d0 n0 l0 d1 n1 l1).1, .int .i64 (twoR shH d0 n0 l0 d1 n1 l1).2.1, .slice C1 (twoR shH d0 n0 l0 d1 n1 l1).2.2.1.length e1], rowT C1 e1 (twoR shH d0 n0 l0 d1 n1 l1).2.2.1, rowT B2 b2 l1, rowT B1 b1 l0, bx g_as1 32 #[.int .i64 d1, .int .i64 n1, .slice A1 l1.length c1], bx g_as0 32 #[.int .i64 d0, .int .i64 n0, .slice A0 l0.length c0]])) _)
  case h1 =>
    refine ps (.t 0 (.t 2 (.two 1 8 (.two 3 8 (.two 4 8 (.p 5 (.p 6 (.p 7 (.e 8 (.d 9 (.p 10 .done)))))) (.e 4 (.p 5 (.p 6 (.p 7 (.d 9 (.p 10 .done))))))) (.e 3 (.e 4 (.p 5 (.p 6 (.p 7 (.d 9 (.p 10 .done)))))))) (.e 1 (.e 3 (.e 4 (.p 5 (.p 6 (.p 7 (.d 9 (.p 10 .done))))))))))) (fun w' => w'.cell? ⟨g_as0, 0, none⟩ = some (.int .i64 d0) ∧ w'.cell? ⟨g_as0, 1, none⟩ = some (.int .i64 n0) ∧ w'.cell? ⟨g_as0, 2, none⟩ = some (.slice A0 l0.length c0) ∧ w'.cell? ⟨g_as1, 0, none⟩ = some (.int .i64 d1) ∧ w'.cell? ⟨g_as1, 1, none⟩ = some (.int .i64 n1) ∧ w'.cell? ⟨g_as1, 2, none⟩ = some (.slice A1 l1.length c1)) [9] ⟨HS.out.c 13 0 (v := .int .i64 d0) rfl rfl, HS.out.c 13 1 (v := .int .i64 n0) rfl rfl, HS.out.c 13 2 (v := .slice A0 l0.length c0) rfl rfl, HS.out.c 12 0 (v := .int .i64 d1) rfl rfl, HS.out.c 12 1 (v := .int .i64 n1) rfl rfl, HS.out.c 12 2 (v := .slice A1 l1.length c1) rfl rfl⟩ (fun hHeld => ?_)
    repeat (first | ((with_reducible refine gate_p ?_); refine rp rfl rfl ?_) | ((with_reducible refine gate_t ?_); refine rt rfl rfl hHeld ?_))
    refine run_two ?_ ?_
    · skip
      refine run_e rfl (fun K hK => ?_)
      refine gc Try.func21 (lawSeries d0 n0 A0 c0 l0 _ (HS.out.oldC HR0.out) (bnd_iff.1 (hz0 (by omega))).1) rfl rfl ?_
      rintro e_ w1 ⟨B7, b7, rfl, hs⟩
      refine ⟨_, rfl, ?_⟩
      replace HS := sN1 HS hs
      refine ge hK ⟨HS.out.c 14 0 (v := .int .i64 d0) rfl rfl, HS.out.c 14 1 (v := .int .i64 n0) rfl rfl, HS.out.c 14 2 (v := .slice A0 l0.length c0) rfl rfl, HS.out.c 13 0 (v := .int .i64 d1) rfl rfl, HS.out.c 13 1 (v := .int .i64 n1) rfl rfl, HS.out.c 13 2 (v := .slice A1 l1.length c1) rfl rfl⟩ (fun hHeld => ?_)
      refine run_two ?_ ?_
      · skip
        refine run_e rfl (fun K hK => ?_)
        refine gc Try.func21 (lawSeries d1 n1 A1 c1 l1 _ (HS.out.oldC HR1.out) (bnd_iff.1 (hz1 (by omega))).1) rfl rfl ?_
        rintro e_ w1 ⟨B8, b8, rfl, hs⟩
        refine ⟨_, rfl, ?_⟩
        replace HS := sN1 HS hs
        refine ge hK ⟨HS.out.c 15 0 (v := .int .i64 d0) rfl rfl, HS.out.c 15 1 (v := .int .i64 n0) rfl rfl, HS.out.c 15 2 (v := .slice A0 l0.length c0) rfl rfl, HS.out.c 14 0 (v := .int .i64 d1) rfl rfl, HS.out.c 14 1 (v := .int .i64 n1) rfl rfl, HS.out.c 14 2 (v := .slice A1 l1.length c1) rfl rfl⟩ (fun hHeld => ?_)
        refine run_two ?_ ?_
        · skip
          refine run_e rfl (fun K hK => ?_)
          refine gc Try.func31 (implHalfShuffle d0 n0 B7 b7 l0 d1 n1 B8 b8 l1 _ (HS.out.reads 1 rfl) (HS.out.cap 1 rfl) (hz0 (by omega)) (HS.out.reads 0 rfl) (HS.out.cap 0 rfl) (hz1 (by omega))) rfl rfl ?_
          rintro e_ w1 ⟨C3, e3, rfl, hs⟩
          refine ⟨_, rfl, ?_⟩
          replace HS := sN1 HS hs
          refine ge hK ⟨HS.out.c 16 0 (v := .int .i64 d0) rfl rfl, HS.out.c 16 1 (v := .int .i64 n0) rfl rfl, HS.out.c 16 2 (v := .slice A0 l0.length c0) rfl rfl, HS.out.c 15 0 (v := .int .i64 d1) rfl rfl, HS.out.c 15 1 (v := .int .i64 n1) rfl rfl, HS.out.c 15 2 (v := .slice A1 l1.length c1) rfl rfl⟩ (fun hHeld => ?_)
          repeat (first | ((with_reducible refine gate_p ?_); refine rp rfl rfl ?_) | ((with_reducible refine gate_t ?_); refine rt rfl rfl hHeld ?_))
          refine run_e rfl (fun K hK => ?_)
          refine bx1 24 #[(.int .i64 0), (.int .i64 0), (.slice none 0 0)] HS ?_
          intro g_bh0 w1 hg_bh0 HS
          refine ge hK ⟨HS.out.c 17 0 (v := .int .i64 d0) rfl rfl, HS.out.c 17 1 (v := .int .i64 n0) rfl rfl, HS.out.c 17 2 (v := .slice A0 l0.length c0) rfl rfl, HS.out.c 16 0 (v := .int .i64 d1) rfl rfl, HS.out.c 16 1 (v := .int .i64 n1) rfl rfl, HS.out.c 16 2 (v := .slice A1 l1.length c1) rfl rfl⟩ (fun hHeld => ?_)
          refine run_d rfl (fun K hK => ?_)
          refine st1 HS 0 0 #[.int .i64 (twoR shH d0 n0 l0 d1 n1 l1).1, .int .i64 (twoR shH d0 n0 l0 d1 n1 l1).2.1, .slice C3 (twoR shH d0 n0 l0 d1 n1 l1).2.2.1.length e3] rfl rfl rfl rfl rfl ?_
          intro w1 HS
          refine goD hK rfl ?_
          repeat (first | ((with_reducible refine gate_p ?_); refine rp rfl rfl ?_) | ((with_reducible refine gate_t ?_); refine rt rfl rfl hHeld ?_))
          refine run_done ?_
          exact ⟨B7, b7, B8, b8, C3, e3, g_bh0, rfl, HS⟩
        · skip
          refine run_e rfl (fun K hK => ?_)
          refine bx1 24 #[(.int .i64 0), (.int .i64 0), (.slice none 0 0)] HS ?_
          intro g_bh0 w1 hg_bh0 HS
          refine ge hK ⟨HS.out.c 16 0 (v := .int .i64 d0) rfl rfl, HS.out.c 16 1 (v := .int .i64 n0) rfl rfl, HS.out.c 16 2 (v := .slice A0 l0.length c0) rfl rfl, HS.out.c 15 0 (v := .int .i64 d1) rfl rfl, HS.out.c 15 1 (v := .int .i64 n1) rfl rfl, HS.out.c 15 2 (v := .slice A1 l1.length c1) rfl rfl⟩ (fun hHeld => ?_)
          refine run_e rfl (fun K hK => ?_)
          refine gc Try.func31 (implHalfShuffle d0 n0 B7 b7 l0 d1 n1 B8 b8 l1 _ (HS.out.reads 2 rfl) (HS.out.cap 2 rfl) (hz0 (by omega)) (HS.out.reads 1 rfl) (HS.out.cap 1 rfl) (hz1 (by omega))) rfl rfl ?_
          rintro e_ w1 ⟨C3, e3, rfl, hs⟩
          refine ⟨_, rfl, ?_⟩
          replace HS := sN1 HS hs
          refine ge hK ⟨HS.out.c 17 0 (v := .int .i64 d0) rfl rfl, HS.out.c 17 1 (v := .int .i64 n0) rfl rfl, HS.out.c 17 2 (v := .slice A0 l0.length c0) rfl rfl, HS.out.c 16 0 (v := .int .i64 d1) rfl rfl, HS.out.c 16 1 (v := .int .i64 n1) rfl rfl, HS.out.c 16 2 (v := .slice A1 l1.length c1) rfl rfl⟩ (fun hHeld => ?_)
          repeat (first | ((with_reducible refine gate_p ?_); refine rp rfl rfl ?_) | ((with_reducible refine gate_t ?_); refine rt rfl rfl hHeld ?_))
          refine run_d rfl (fun K hK => ?_)
          refine st1 HS 1 0 #[.int .i64 (twoR shH d0 n0 l0 d1 n1 l1).1, .int .i64 (twoR shH d0 n0 l0 d1 n1 l1).2.1, .slice C3 (twoR shH d0 n0 l0 d1 n1 l1).2.2.1.length e3] rfl rfl rfl rfl rfl ?_
          intro w1 HS
          refine goD hK rfl ?_
          repeat (first | ((with_reducible refine gate_p ?_); refine rp rfl rfl ?_) | ((with_reducible refine gate_t ?_); refine rt rfl rfl hHeld ?_))
          refine run_done ?_
          have n_ := HS.out.sel [1, 0, 2, 3, 4, 5, 6, 7, 8, 9, 10, 11, 12, 13, 14, 15, 16, 17] (by decide)
          simp only [List.filterMap_cons, List.filterMap_nil, List.getElem?_cons_zero, List.getElem?_cons_succ] at n_
          exact ⟨B7, b7, B8, b8, C3, e3, g_bh0, rfl, ⟨n_⟩⟩
      · skip
        refine run_e rfl (fun K hK => ?_)
        refine bx1 24 #[(.int .i64 0), (.int .i64 0), (.slice none 0 0)] HS ?_
        intro g_bh0 w1 hg_bh0 HS
        refine ge hK ⟨HS.out.c 15 0 (v := .int .i64 d0) rfl rfl, HS.out.c 15 1 (v := .int .i64 n0) rfl rfl, HS.out.c 15 2 (v := .slice A0 l0.length c0) rfl rfl, HS.out.c 14 0 (v := .int .i64 d1) rfl rfl, HS.out.c 14 1 (v := .int .i64 n1) rfl rfl, HS.out.c 14 2 (v := .slice A1 l1.length c1) rfl rfl⟩ (fun hHeld => ?_)
        refine run_e rfl (fun K hK => ?_)
        refine gc Try.func21 (lawSeries d1 n1 A1 c1 l1 _ (HS.out.oldC HR1.out) (bnd_iff.1 (hz1 (by omega))).1) rfl rfl ?_
        rintro e_ w1 ⟨B8, b8, rfl, hs⟩
        refine ⟨_, rfl, ?_⟩
        replace HS := sN1 HS hs
        refine ge hK ⟨HS.out.c 16 0 (v := .int .i64 d0) rfl rfl, HS.out.c 16 1 (v := .int .i64 n0) rfl rfl, HS.out.c 16 2 (v := .slice A0 l0.length c0) rfl rfl, HS.out.c 15 0 (v := .int .i64 d1) rfl rfl, HS.out.c 15 1 (v := .int .i64 n1) rfl rfl, HS.out.c 15 2 (v := .slice A1 l1.length c1) rfl rfl⟩ (fun hHeld => ?_)
        refine run_e rfl (fun K hK => ?_)
        refine gc Try.func31 (implHalfShuffle d0 n0 B7 b7 l0 d1 n1 B8 b8 l1 _ (HS.out.reads 2 rfl) (HS.out.cap 2 rfl) (hz0 (by omega)) (HS.out.reads 0 rfl) (HS.out.cap 0 rfl) (hz1 (by omega))) rfl rfl ?_
        rintro e_ w1 ⟨C3, e3, rfl, hs⟩
        refine ⟨_, rfl, ?_⟩
        replace HS := sN1 HS hs
        refine ge hK ⟨HS.out.c 17 0 (v := .int .i64 d0) rfl rfl, HS.out.c 17 1 (v := .int .i64 n0) rfl rfl, HS.out.c 17 2 (v := .slice A0 l0.length c0) rfl rfl, HS.out.c 16 0 (v := .int .i64 d1) rfl rfl, HS.out.c 16 1 (v := .int .i64 n1) rfl rfl, HS.out.c 16 2 (v := .slice A1 l1.length c1) rfl rfl⟩ (fun hHeld => ?_)
        repeat (first | ((with_reducible refine gate_p ?_); refine rp rfl rfl ?_) | ((with_reducible refine gate_t ?_); refine rt rfl rfl hHeld ?_))
        refine run_d rfl (fun K hK => ?_)
        refine st1 HS 2 0 #[.int .i64 (twoR shH d0 n0 l0 d1 n1 l1).1, .int .i64 (twoR shH d0 n0 l0 d1 n1 l1).2.1, .slice C3 (twoR shH d0 n0 l0 d1 n1 l1).2.2.1.length e3] rfl rfl rfl rfl rfl ?_
        intro w1 HS
        refine goD hK rfl ?_
        repeat (first | ((with_reducible refine gate_p ?_); refine rp rfl rfl ?_) | ((with_reducible refine gate_t ?_); refine rt rfl rfl hHeld ?_))
        refine run_done ?_
        have n_ := HS.out.sel [2, 0, 1, 3, 4, 5, 6, 7, 8, 9, 10, 11, 12, 13, 14, 15, 16, 17] (by decide)
        simp only [List.filterMap_cons, List.filterMap_nil, List.getElem?_cons_zero, List.getElem?_cons_succ] at n_
        exact ⟨B7, b7, B8, b8, C3, e3, g_bh0, rfl, ⟨n_⟩⟩
    · skip
      refine run_e rfl (fun K hK => ?_)
      refine bx1 24 #[(.int .i64 0), (.int .i64 0), (.slice none 0 0)] HS ?_
      intro g_bh0 w1 hg_bh0 HS
      refine ge hK ⟨HS.out.c 14 0 (v := .int .i64 d0) rfl rfl, HS.out.c 14 1 (v := .int .i64 n0) rfl rfl, HS.out.c 14 2 (v := .slice A0 l0.length c0) rfl rfl, HS.out.c 13 0 (v := .int .i64 d1) rfl rfl, HS.out.c 13 1 (v := .int .i64 n1) rfl rfl, HS.out.c 13 2 (v := .slice A1 l1.length c1) rfl rfl⟩ (fun hHeld => ?_)
      refine run_e rfl (fun K hK => ?_)
      refine gc Try.func21 (lawSeries d0 n0 A0 c0 l0 _ (HS.out.oldC HR0.out) (bnd_iff.1 (hz0 (by omega))).1) rfl rfl ?_
      rintro e_ w1 ⟨B7, b7, rfl, hs⟩
      refine ⟨_, rfl, ?_⟩
      replace HS := sN1 HS hs
      refine ge hK ⟨HS.out.c 15 0 (v := .int .i64 d0) rfl rfl, HS.out.c 15 1 (v := .int .i64 n0) rfl rfl, HS.out.c 15 2 (v := .slice A0 l0.length c0) rfl rfl, HS.out.c 14 0 (v := .int .i64 d1) rfl rfl, HS.out.c 14 1 (v := .int .i64 n1) rfl rfl, HS.out.c 14 2 (v := .slice A1 l1.length c1) rfl rfl⟩ (fun hHeld => ?_)
      refine run_e rfl (fun K hK => ?_)
      refine gc Try.func21 (lawSeries d1 n1 A1 c1 l1 _ (HS.out.oldC HR1.out) (bnd_iff.1 (hz1 (by omega))).1) rfl rfl ?_
      rintro e_ w1 ⟨B8, b8, rfl, hs⟩
      refine ⟨_, rfl, ?_⟩
      replace HS := sN1 HS hs
      refine ge hK ⟨HS.out.c 16 0 (v := .int .i64 d0) rfl rfl, HS.out.c 16 1 (v := .int .i64 n0) rfl rfl, HS.out.c 16 2 (v := .slice A0 l0.length c0) rfl rfl, HS.out.c 15 0 (v := .int .i64 d1) rfl rfl, HS.out.c 15 1 (v := .int .i64 n1) rfl rfl, HS.out.c 15 2 (v := .slice A1 l1.length c1) rfl rfl⟩ (fun hHeld => ?_)
      refine run_e rfl (fun K hK => ?_)
      refine gc Try.func31 (implHalfShuffle d0 n0 B7 b7 l0 d1 n1 B8 b8 l1 _ (HS.out.reads 1 rfl) (HS.out.cap 1 rfl) (hz0 (by omega)) (HS.out.reads 0 rfl) (HS.out.cap 0 rfl) (hz1 (by omega))) rfl rfl ?_
      rintro e_ w1 ⟨C3, e3, rfl, hs⟩
      refine ⟨_, rfl, ?_⟩
      replace HS := sN1 HS hs
      refine ge hK ⟨HS.out.c 17 0 (v := .int .i64 d0) rfl rfl, HS.out.c 17 1 (v := .int .i64 n0) rfl rfl, HS.out.c 17 2 (v := .slice A0 l0.length c0) rfl rfl, HS.out.c 16 0 (v := .int .i64 d1) rfl rfl, HS.out.c 16 1 (v := .int .i64 n1) rfl rfl, HS.out.c 16 2 (v := .slice A1 l1.length c1) rfl rfl⟩ (fun hHeld => ?_)
      repeat (first | ((with_reducible refine gate_p ?_); refine rp rfl rfl ?_) | ((with_reducible refine gate_t ?_); refine rt rfl rfl hHeld ?_))
      refine run_d rfl (fun K hK => ?_)
      refine st1 HS 3 0 #[.int .i64 (twoR shH d0 n0 l0 d1 n1 l1).1, .int .i64 (twoR shH d0 n0 l0 d1 n1 l1).2.1, .slice C3 (twoR shH d0 n0 l0 d1 n1 l1).2.2.1.length e3] rfl rfl rfl rfl rfl ?_
      intro w1 HS
      refine goD hK rfl ?_
      repeat (first | ((with_reducible refine gate_p ?_); refine rp rfl rfl ?_) | ((with_reducible refine gate_t ?_); refine rt rfl rfl hHeld ?_))
      refine run_done ?_
      have n_ := HS.out.sel [3, 0, 1, 2, 4, 5, 6, 7, 8, 9, 10, 11, 12, 13, 14, 15, 16, 17] (by decide)
      simp only [List.filterMap_cons, List.filterMap_nil, List.getElem?_cons_zero, List.getElem?_cons_succ] at n_
      exact ⟨B7, b7, B8, b8, C3, e3, g_bh0, rfl, ⟨n_⟩⟩
  clear HS
  rintro a_ w1 ⟨B7, b7, B8, b8, C3, e3, g_bh0, rfl, HS⟩
  have f1_ := HS.out.c 0 0 (v := .int .i64 (twoR shH d0 n0 l0 d1 n1 l1).1) rfl rfl
  have f2_ := HS.out.c 0 1 (v := .int .i64 (twoR shH d0 n0 l0 d1 n1 l1).2.1) rfl rfl
  have f3_ := HS.out.c 0 2 (v := .slice C3 (twoR shH d0 n0 l0 d1 n1 l1).2.2.1.length e3) rfl rfl
  have f4_ := HS.out.c 12 0 (v := .int .i64 (twoR shH d0 n0 l0 d1 n1 l1).1) rfl rfl
  have f5_ := HS.out.c 12 1 (v := .int .i64 (twoR shH d0 n0 l0 d1 n1 l1).2.1) rfl rfl
  have f6_ := HS.out.c 12 2 (v := .slice C1 (twoR shH d0 n0 l0 d1 n1 l1).2.2.1.length e1) rfl rfl
  go_wp2_with (first | (go_at_call 16; refine (lawEqSeries (twoR shH d0 n0 l0 d1 n1 l1).1 (twoR shH d0 n0 l0 d1 n1 l1).2.1 C3 C1 e3 e1 (twoR shH d0 n0 l0 d1 n1 l1).2.2.1 _ (HS.out.reads 1 rfl) (HS.out.reads 13 rfl) (two_len shH_ex)).mono ?_; rintro e_ w1 ⟨rfl, hb⟩; replace HS := sB HS hb; clear hb f1_ f2_ f3_ f4_ f5_ f6_; have f1_ := HS.out.c 9 0 (v := .int .i64 (twoR shH d0 n0 l0 d1 n1 l1).1) rfl rfl; have f2_ := HS.out.c 9 1 (v := .int .i64 (twoR shH d0 n0 l0 d1 n1 l1).2.1) rfl rfl; have f3_ := HS.out.c 9 2 (v := .slice C2 (twoR shH d0 n0 l0 d1 n1 l1).2.2.1.length e2) rfl rfl) | (go_at_call 18; refine (lawHeldO (twoR shH d0 n0 l0 d1 n1 l1).1 (twoR shH d0 n0 l0 d1 n1 l1).2.1 C2 e2 (twoR shH d0 n0 l0 d1 n1 l1).2.2.1.length 1 Q EQ.out _ (HS.out.readsM 4 rfl) (two_len shH_ex) (by decide) (by decide)).mono ?_; rintro e_ w1 ⟨rfl, hb⟩; replace HS := sB HS hb; clear hb f1_ f2_ f3_))
  repeat (focus (go_ret; exact ⟨rfl, HS.out.below⟩; done))
end Go.Proofs.Ytaheikponfmdiaa.H


