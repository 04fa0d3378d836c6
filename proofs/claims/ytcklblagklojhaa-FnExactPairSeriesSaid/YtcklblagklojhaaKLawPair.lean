/- The law of PairSeries: its call returns true. Conditions: those of arguments that can be read. -/
import Derived.Test.YtcklblagklojhaaKPair
namespace Go.Proofs.Ytcklblagklojhaa.H
open Go.RowKit Go.Proofs.YtcklblagklojhaaW.PrintWords Go.Proofs.YtcklblagklojhaaW.PrintLast Go.Proofs.YtcklblagklojhaaW.PrintMore Go.Proofs.Ytcklblagklojhaa.M
set_option linter.unusedVariables false
set_option linter.unusedSimpArgs false
set_option maxRecDepth 100000
set_option maxHeartbeats 16000000 in
theorem lawPairSeries (d0 n0 : Int) (A0 : Option Addr) (c0 : Nat) (l0 : Ts) (d1 n1 : Int) (A1 : Option Addr) (c1 : Nat) (l1 : Ts) (w : World) (hl0 : l0.length ≤ c0) (hm0 : ∀ t ∈ l0, t.1.size ≤ 9223372036854775807) (hr0 : KT.C w A0 l0.length l0) (hl1 : l1.length ≤ c1) (hm1 : ∀ t ∈ l1, t.1.size ≤ 9223372036854775807) (hr1 : KT.C w A1 l1.length l1) :
    Calls Try.prog 12 #[.agg #[.int .i64 d0, .int .i64 n0, .slice A0 l0.length c0], .agg #[.int .i64 d1, .int .i64 n1, .slice A1 l1.length c1]] w fun e w' => e = .returned (.bool true) ∧ Below w.heap.size w w' := by
  have HR0 := Aside0.mk hr0
  have HM0 := Aside0.mk hm0
  have hlm0 : l0.length ≤ 9223372036854775807 := Kd.C_max hr0
  have HR1 := Aside0.mk hr1
  have HM1 := Aside0.mk hm1
  have hlm1 : l1.length ≤ 9223372036854775807 := Kd.C_max hr1
  have HS := Aside0.mk (Sep.refl w)
  have hne : ((pairR d0 n0 l0 d1 n1 l1).2.2 != (pairR d0 n0 l0 d1 n1 l1).2.2) = false := by simp
  clear hr0 hm0 hr1 hm1
  go_enter Try.func12, Try.ntmps12
  have tk1_ : True := trivial
  go_wp2_with (first | ((with_reducible refine gate_dst (N := 2) rfl ?_); refine bxL 40 #[.int .i64 d0, .int .i64 n0, .slice A0 l0.length c0] HS ?_; clear HS; intro g_as0 w1 hg_as0 HS) | ((with_reducible refine gate_dst (N := 3) rfl ?_); refine bxL 40 #[.int .i64 d1, .int .i64 n1, .slice A1 l1.length c1] HS ?_; clear HS; intro g_as1 w1 hg_as1 HS; have f1_ := HS.out.c 1 0 (v := .int .i64 d0) rfl rfl; have f2_ := HS.out.c 1 1 (v := .int .i64 n0) rfl rfl; have f3_ := HS.out.c 1 2 (v := .slice A0 l0.length c0) rfl rfl) | (go_at_call 39; clear tk1_; refine (lawSzSeries d0 n0 A0 c0 l0 1048576 _ (HS.out.oldC HR0.out) hlm0 HM0.out (by omega) (by omega)).mono ?_; rintro e_ w1 ⟨v0, rfl, hv0, hu0, hz0, hb⟩; replace HS := sB HS hb; clear hb f1_ f2_ f3_; have f1_ := HS.out.c 0 0 (v := .int .i64 d1) rfl rfl; have f2_ := HS.out.c 0 1 (v := .int .i64 n1) rfl rfl; have f3_ := HS.out.c 0 2 (v := .slice A1 l1.length c1) rfl rfl) | (go_at_call 39; refine (lawSzSeries d1 n1 A1 c1 l1 v0 _ (HS.out.oldC HR1.out) hlm1 HM1.out (by omega) (by omega)).mono ?_; rintro e_ w1 ⟨v1, rfl, hv1, hu1, hz1, hb⟩; replace HS := sB HS hb; clear hb f1_ f2_ f3_))
  repeat (focus (go_ret; exact ⟨rfl, HS.out.below⟩; done))
  replace HS := sD HS
  apply region_told ((fun (A0_ : Option Addr → Nat → Option Addr → Nat → Nat → Act) (a' : Act) (w' : World) => ∃ (B1 : Option Addr) (b1 : Nat) (B2 : Option Addr) (b2 : Nat) (g_bw0 : Nat), a' = A0_ B1 b1 B2 b2 g_bw0 ∧ Aside0 (Mod w w' No [bx g_bw0 24 #[.int .i64 (pairR d0 n0 l0 d1 n1 l1).1, .int .i64 (pairR d0 n0 l0 d1 n1 l1).2.1], rowT B2 b2 l1, rowT B1 b1 l0, bx g_as1 40 #[.int .i64 d1, .int .i64 n1, .slice A1 l1.length c1], bx g_as0 40 #[.int .i64 d0, .int .i64 n0, .slice A0 l0.length c0]])) _)
  case h1 =>
    refine ps (.t 0 (.t 2 (.two 1 8 (.two 3 8 (.two 4 8 (.p 5 (.p 6 (.p 7 (.e 8 (.d 9 (.p 10 .done)))))) (.e 4 (.p 5 (.p 6 (.p 7 (.d 9 (.p 10 .done))))))) (.e 3 (.e 4 (.p 5 (.p 6 (.p 7 (.d 9 (.p 10 .done)))))))) (.e 1 (.e 3 (.e 4 (.p 5 (.p 6 (.p 7 (.d 9 (.p 10 .done))))))))))) (fun w' => w'.cell? ⟨g_as0, 0, none⟩ = some (.int .i64 d0) ∧ w'.cell? ⟨g_as0, 1, none⟩ = some (.int .i64 n0) ∧ w'.cell? ⟨g_as0, 2, none⟩ = some (.slice A0 l0.length c0) ∧ w'.cell? ⟨g_as1, 0, none⟩ = some (.int .i64 d1) ∧ w'.cell? ⟨g_as1, 1, none⟩ = some (.int .i64 n1) ∧ w'.cell? ⟨g_as1, 2, none⟩ = some (.slice A1 l1.length c1)) [9] ⟨HS.out.c 1 0 (v := .int .i64 d0) rfl rfl, HS.out.c 1 1 (v := .int .i64 n0) rfl rfl, HS.out.c 1 2 (v := .slice A0 l0.length c0) rfl rfl, HS.out.c 0 0 (v := .int .i64 d1) rfl rfl, HS.out.c 0 1 (v := .int .i64 n1) rfl rfl, HS.out.c 0 2 (v := .slice A1 l1.length c1) rfl rfl⟩ (fun hHeld => ?_)
    repeat (first | ((with_reducible refine gate_p ?_); refine rp rfl rfl ?_) | ((with_reducible refine gate_t ?_); refine rt rfl rfl hHeld ?_))
    refine run_two ?_ ?_
    · skip
      refine run_e rfl (fun K hK => ?_)
      refine gc Try.func41 (lawSeries d0 n0 A0 c0 l0 _ (HS.out.oldC HR0.out) (bnd_iff.1 (hz0 (by omega))).1) rfl rfl ?_
      rintro e_ w1 ⟨B1, b1, rfl, hs⟩
      refine ⟨_, rfl, ?_⟩
      replace HS := sN1 HS hs
      refine ge hK ⟨HS.out.c 2 0 (v := .int .i64 d0) rfl rfl, HS.out.c 2 1 (v := .int .i64 n0) rfl rfl, HS.out.c 2 2 (v := .slice A0 l0.length c0) rfl rfl, HS.out.c 1 0 (v := .int .i64 d1) rfl rfl, HS.out.c 1 1 (v := .int .i64 n1) rfl rfl, HS.out.c 1 2 (v := .slice A1 l1.length c1) rfl rfl⟩ (fun hHeld => ?_)
      refine run_two ?_ ?_
      · skip
        refine run_e rfl (fun K hK => ?_)
        refine gc Try.func41 (lawSeries d1 n1 A1 c1 l1 _ (HS.out.oldC HR1.out) (bnd_iff.1 (hz1 (by omega))).1) rfl rfl ?_
        rintro e_ w1 ⟨B2, b2, rfl, hs⟩
        refine ⟨_, rfl, ?_⟩
        replace HS := sN1 HS hs
        refine ge hK ⟨HS.out.c 3 0 (v := .int .i64 d0) rfl rfl, HS.out.c 3 1 (v := .int .i64 n0) rfl rfl, HS.out.c 3 2 (v := .slice A0 l0.length c0) rfl rfl, HS.out.c 2 0 (v := .int .i64 d1) rfl rfl, HS.out.c 2 1 (v := .int .i64 n1) rfl rfl, HS.out.c 2 2 (v := .slice A1 l1.length c1) rfl rfl⟩ (fun hHeld => ?_)
        refine run_two ?_ ?_
        · skip
          refine run_e rfl (fun K hK => ?_)
          refine gc Try.func55 (specPairSeries d0 n0 B1 b1 l0 d1 n1 B2 b2 l1 _ (HS.out.reads 1 rfl) (HS.out.cap 1 rfl) (hz0 (by omega)) (HS.out.reads 0 rfl) (HS.out.cap 0 rfl) (hz1 (by omega))) rfl rfl ?_
          rintro e_ w1 ⟨rfl, hb⟩
          refine ⟨_, rfl, ?_⟩
          replace HS := sB HS hb
          refine ge hK ⟨HS.out.c 3 0 (v := .int .i64 d0) rfl rfl, HS.out.c 3 1 (v := .int .i64 n0) rfl rfl, HS.out.c 3 2 (v := .slice A0 l0.length c0) rfl rfl, HS.out.c 2 0 (v := .int .i64 d1) rfl rfl, HS.out.c 2 1 (v := .int .i64 n1) rfl rfl, HS.out.c 2 2 (v := .slice A1 l1.length c1) rfl rfl⟩ (fun hHeld => ?_)
          repeat (first | ((with_reducible refine gate_p ?_); refine rp rfl rfl ?_) | ((with_reducible refine gate_t ?_); refine rt rfl rfl hHeld ?_))
          refine run_e rfl (fun K hK => ?_)
          refine bx1 24 #[(.int .i64 0), (.int .i64 0)] HS ?_
          intro g_bw0 w1 hg_bw0 HS
          refine ge hK ⟨HS.out.c 4 0 (v := .int .i64 d0) rfl rfl, HS.out.c 4 1 (v := .int .i64 n0) rfl rfl, HS.out.c 4 2 (v := .slice A0 l0.length c0) rfl rfl, HS.out.c 3 0 (v := .int .i64 d1) rfl rfl, HS.out.c 3 1 (v := .int .i64 n1) rfl rfl, HS.out.c 3 2 (v := .slice A1 l1.length c1) rfl rfl⟩ (fun hHeld => ?_)
          refine run_d rfl (fun K hK => ?_)
          refine st1 HS 0 0 #[.int .i64 (pairR d0 n0 l0 d1 n1 l1).1, .int .i64 (pairR d0 n0 l0 d1 n1 l1).2.1] rfl rfl rfl rfl rfl ?_
          intro w1 HS
          refine goD hK rfl ?_
          repeat (first | ((with_reducible refine gate_p ?_); refine rp rfl rfl ?_) | ((with_reducible refine gate_t ?_); refine rt rfl rfl hHeld ?_))
          refine run_done ?_
          exact ⟨B1, b1, B2, b2, g_bw0, rfl, HS⟩
        · skip
          refine run_e rfl (fun K hK => ?_)
          refine bx1 24 #[(.int .i64 0), (.int .i64 0)] HS ?_
          intro g_bw0 w1 hg_bw0 HS
          refine ge hK ⟨HS.out.c 4 0 (v := .int .i64 d0) rfl rfl, HS.out.c 4 1 (v := .int .i64 n0) rfl rfl, HS.out.c 4 2 (v := .slice A0 l0.length c0) rfl rfl, HS.out.c 3 0 (v := .int .i64 d1) rfl rfl, HS.out.c 3 1 (v := .int .i64 n1) rfl rfl, HS.out.c 3 2 (v := .slice A1 l1.length c1) rfl rfl⟩ (fun hHeld => ?_)
          refine run_e rfl (fun K hK => ?_)
          refine gc Try.func55 (specPairSeries d0 n0 B1 b1 l0 d1 n1 B2 b2 l1 _ (HS.out.reads 2 rfl) (HS.out.cap 2 rfl) (hz0 (by omega)) (HS.out.reads 1 rfl) (HS.out.cap 1 rfl) (hz1 (by omega))) rfl rfl ?_
          rintro e_ w1 ⟨rfl, hb⟩
          refine ⟨_, rfl, ?_⟩
          replace HS := sB HS hb
          refine ge hK ⟨HS.out.c 4 0 (v := .int .i64 d0) rfl rfl, HS.out.c 4 1 (v := .int .i64 n0) rfl rfl, HS.out.c 4 2 (v := .slice A0 l0.length c0) rfl rfl, HS.out.c 3 0 (v := .int .i64 d1) rfl rfl, HS.out.c 3 1 (v := .int .i64 n1) rfl rfl, HS.out.c 3 2 (v := .slice A1 l1.length c1) rfl rfl⟩ (fun hHeld => ?_)
          repeat (first | ((with_reducible refine gate_p ?_); refine rp rfl rfl ?_) | ((with_reducible refine gate_t ?_); refine rt rfl rfl hHeld ?_))
          refine run_d rfl (fun K hK => ?_)
          refine st1 HS 0 0 #[.int .i64 (pairR d0 n0 l0 d1 n1 l1).1, .int .i64 (pairR d0 n0 l0 d1 n1 l1).2.1] rfl rfl rfl rfl rfl ?_
          intro w1 HS
          refine goD hK rfl ?_
          repeat (first | ((with_reducible refine gate_p ?_); refine rp rfl rfl ?_) | ((with_reducible refine gate_t ?_); refine rt rfl rfl hHeld ?_))
          refine run_done ?_
          have n_ := HS.out.sel [0, 1, 2, 3, 4] (by decide)
          simp only [List.filterMap_cons, List.filterMap_nil, List.getElem?_cons_zero, List.getElem?_cons_succ] at n_
          exact ⟨B1, b1, B2, b2, g_bw0, rfl, ⟨n_⟩⟩
      · skip
        refine run_e rfl (fun K hK => ?_)
        refine bx1 24 #[(.int .i64 0), (.int .i64 0)] HS ?_
        intro g_bw0 w1 hg_bw0 HS
        refine ge hK ⟨HS.out.c 3 0 (v := .int .i64 d0) rfl rfl, HS.out.c 3 1 (v := .int .i64 n0) rfl rfl, HS.out.c 3 2 (v := .slice A0 l0.length c0) rfl rfl, HS.out.c 2 0 (v := .int .i64 d1) rfl rfl, HS.out.c 2 1 (v := .int .i64 n1) rfl rfl, HS.out.c 2 2 (v := .slice A1 l1.length c1) rfl rfl⟩ (fun hHeld => ?_)
        refine run_e rfl (fun K hK => ?_)
        refine gc Try.func41 (lawSeries d1 n1 A1 c1 l1 _ (HS.out.oldC HR1.out) (bnd_iff.1 (hz1 (by omega))).1) rfl rfl ?_
        rintro e_ w1 ⟨B2, b2, rfl, hs⟩
        refine ⟨_, rfl, ?_⟩
        replace HS := sN1 HS hs
        refine ge hK ⟨HS.out.c 4 0 (v := .int .i64 d0) rfl rfl, HS.out.c 4 1 (v := .int .i64 n0) rfl rfl, HS.out.c 4 2 (v := .slice A0 l0.length c0) rfl rfl, HS.out.c 3 0 (v := .int .i64 d1) rfl rfl, HS.out.c 3 1 (v := .int .i64 n1) rfl rfl, HS.out.c 3 2 (v := .slice A1 l1.length c1) rfl rfl⟩ (fun hHeld => ?_)
        refine run_e rfl (fun K hK => ?_)
        refine gc Try.func55 (specPairSeries d0 n0 B1 b1 l0 d1 n1 B2 b2 l1 _ (HS.out.reads 2 rfl) (HS.out.cap 2 rfl) (hz0 (by omega)) (HS.out.reads 0 rfl) (HS.out.cap 0 rfl) (hz1 (by omega))) rfl rfl ?_
        rintro e_ w1 ⟨rfl, hb⟩
        refine ⟨_, rfl, ?_⟩
        replace HS := sB HS hb
        refine ge hK ⟨HS.out.c 4 0 (v := .int .i64 d0) rfl rfl, HS.out.c 4 1 (v := .int .i64 n0) rfl rfl, HS.out.c 4 2 (v := .slice A0 l0.length c0) rfl rfl, HS.out.c 3 0 (v := .int .i64 d1) rfl rfl, HS.out.c 3 1 (v := .int .i64 n1) rfl rfl, HS.out.c 3 2 (v := .slice A1 l1.length c1) rfl rfl⟩ (fun hHeld => ?_)
        repeat (first | ((with_reducible refine gate_p ?_); refine rp rfl rfl ?_) | ((with_reducible refine gate_t ?_); refine rt rfl rfl hHeld ?_))
        refine run_d rfl (fun K hK => ?_)
        refine st1 HS 1 0 #[.int .i64 (pairR d0 n0 l0 d1 n1 l1).1, .int .i64 (pairR d0 n0 l0 d1 n1 l1).2.1] rfl rfl rfl rfl rfl ?_
        intro w1 HS
        refine goD hK rfl ?_
        repeat (first | ((with_reducible refine gate_p ?_); refine rp rfl rfl ?_) | ((with_reducible refine gate_t ?_); refine rt rfl rfl hHeld ?_))
        refine run_done ?_
        have n_ := HS.out.sel [1, 0, 2, 3, 4] (by decide)
        simp only [List.filterMap_cons, List.filterMap_nil, List.getElem?_cons_zero, List.getElem?_cons_succ] at n_
        exact ⟨B1, b1, B2, b2, g_bw0, rfl, ⟨n_⟩⟩
    · skip
      refine run_e rfl (fun K hK => ?_)
      refine bx1 24 #[(.int .i64 0), (.int .i64 0)] HS ?_
      intro g_bw0 w1 hg_bw0 HS
      refine ge hK ⟨HS.out.c 2 0 (v := .int .i64 d0) rfl rfl, HS.out.c 2 1 (v := .int .i64 n0) rfl rfl, HS.out.c 2 2 (v := .slice A0 l0.length c0) rfl rfl, HS.out.c 1 0 (v := .int .i64 d1) rfl rfl, HS.out.c 1 1 (v := .int .i64 n1) rfl rfl, HS.out.c 1 2 (v := .slice A1 l1.length c1) rfl rfl⟩ (fun hHeld => ?_)
      refine run_e rfl (fun K hK => ?_)
      refine gc Try.func41 (lawSeries d0 n0 A0 c0 l0 _ (HS.out.oldC HR0.out) (bnd_iff.1 (hz0 (by omega))).1) rfl rfl ?_
      rintro e_ w1 ⟨B1, b1, rfl, hs⟩
      refine ⟨_, rfl, ?_⟩
      replace HS := sN1 HS hs
      refine ge hK ⟨HS.out.c 3 0 (v := .int .i64 d0) rfl rfl, HS.out.c 3 1 (v := .int .i64 n0) rfl rfl, HS.out.c 3 2 (v := .slice A0 l0.length c0) rfl rfl, HS.out.c 2 0 (v := .int .i64 d1) rfl rfl, HS.out.c 2 1 (v := .int .i64 n1) rfl rfl, HS.out.c 2 2 (v := .slice A1 l1.length c1) rfl rfl⟩ (fun hHeld => ?_)
      refine run_e rfl (fun K hK => ?_)
      refine gc Try.func41 (lawSeries d1 n1 A1 c1 l1 _ (HS.out.oldC HR1.out) (bnd_iff.1 (hz1 (by omega))).1) rfl rfl ?_
      rintro e_ w1 ⟨B2, b2, rfl, hs⟩
      refine ⟨_, rfl, ?_⟩
      replace HS := sN1 HS hs
      refine ge hK ⟨HS.out.c 4 0 (v := .int .i64 d0) rfl rfl, HS.out.c 4 1 (v := .int .i64 n0) rfl rfl, HS.out.c 4 2 (v := .slice A0 l0.length c0) rfl rfl, HS.out.c 3 0 (v := .int .i64 d1) rfl rfl, HS.out.c 3 1 (v := .int .i64 n1) rfl rfl, HS.out.c 3 2 (v := .slice A1 l1.length c1) rfl rfl⟩ (fun hHeld => ?_)
      refine run_e rfl (fun K hK => ?_)
      refine gc Try.func55 (specPairSeries d0 n0 B1 b1 l0 d1 n1 B2 b2 l1 _ (HS.out.reads 1 rfl) (HS.out.cap 1 rfl) (hz0 (by omega)) (HS.out.reads 0 rfl) (HS.out.cap 0 rfl) (hz1 (by omega))) rfl rfl ?_
      rintro e_ w1 ⟨rfl, hb⟩
      refine ⟨_, rfl, ?_⟩
      replace HS := sB HS hb
      refine ge hK ⟨HS.out.c 4 0 (v := .int .i64 d0) rfl rfl, HS.out.c 4 1 (v := .int .i64 n0) rfl rfl, HS.out.c 4 2 (v := .slice A0 l0.length c0) rfl rfl, HS.out.c 3 0 (v := .int .i64 d1) rfl rfl, HS.out.c 3 1 (v := .int .i64 n1) rfl rfl, HS.out.c 3 2 (v := .slice A1 l1.length c1) rfl rfl⟩ (fun hHeld => ?_)
      repeat (first | ((with_reducible refine gate_p ?_); refine rp rfl rfl ?_) | ((with_reducible refine gate_t ?_); refine rt rfl rfl hHeld ?_))
      refine run_d rfl (fun K hK => ?_)
      refine st1 HS 2 0 #[.int .i64 (pairR d0 n0 l0 d1 n1 l1).1, .int .i64 (pairR d0 n0 l0 d1 n1 l1).2.1] rfl rfl rfl rfl rfl ?_
      intro w1 HS
      refine goD hK rfl ?_
      repeat (first | ((with_reducible refine gate_p ?_); refine rp rfl rfl ?_) | ((with_reducible refine gate_t ?_); refine rt rfl rfl hHeld ?_))
      refine run_done ?_
      have n_ := HS.out.sel [2, 0, 1, 3, 4] (by decide)
      simp only [List.filterMap_cons, List.filterMap_nil, List.getElem?_cons_zero, List.getElem?_cons_succ] at n_
      exact ⟨B1, b1, B2, b2, g_bw0, rfl, ⟨n_⟩⟩
  clear HS
  rintro a_ w1 ⟨B1, b1, B2, b2, g_bw0, rfl, HS⟩
  have f1_ := HS.out.c 4 0 (v := .int .i64 d0) rfl rfl
  have f2_ := HS.out.c 4 1 (v := .int .i64 n0) rfl rfl
  have f3_ := HS.out.c 4 2 (v := .slice A0 l0.length c0) rfl rfl
  have tk2_ : True := trivial
  go_wp2_with (first | (go_at_call 41; clear tk2_; refine (lawSeries d0 n0 A0 c0 l0 _ (HS.out.oldC HR0.out) (bnd_iff.1 (hz0 (by omega))).1).mono ?_; rintro e_ w1 ⟨B3, b3, rfl, hs⟩; replace HS := sN1 HS hs; clear hs f1_ f2_ f3_) | ((with_reducible refine gate_dst (N := 8) rfl ?_); refine bxL 32 #[(.int .i64 0), (.int .i64 0), (.slice none 0 0)] HS ?_; clear HS; intro g_bx0 w1 hg_bx0 HS) | ((with_reducible refine gate_store (t := 32) (p := 8) rfl ?_); refine stL HS 0 0 #[.int .i64 d0, .int .i64 n0, .slice B3 l0.length b3] rfl rfl rfl rfl rfl ?_; clear HS; intro w1 HS; have f1_ := HS.out.c 5 0 (v := .int .i64 d1) rfl rfl; have f2_ := HS.out.c 5 1 (v := .int .i64 n1) rfl rfl; have f3_ := HS.out.c 5 2 (v := .slice A1 l1.length c1) rfl rfl) | (go_at_call 41; refine (lawSeries d1 n1 A1 c1 l1 _ (HS.out.oldC HR1.out) (bnd_iff.1 (hz1 (by omega))).1).mono ?_; rintro e_ w1 ⟨B4, b4, rfl, hs⟩; replace HS := sN1 HS hs; clear hs f1_ f2_ f3_) | ((with_reducible refine gate_dst (N := 9) rfl ?_); refine bxL 32 #[(.int .i64 0), (.int .i64 0), (.slice none 0 0)] HS ?_; clear HS; intro g_bx1 w1 hg_bx1 HS) | ((with_reducible refine gate_store (t := 32) (p := 9) rfl ?_); refine stL HS 0 0 #[.int .i64 d1, .int .i64 n1, .slice B4 l1.length b4] rfl rfl rfl rfl rfl ?_; clear HS; intro w1 HS; have f1_ := HS.out.c 2 0 (v := .int .i64 d0) rfl rfl; have f2_ := HS.out.c 2 1 (v := .int .i64 n0) rfl rfl; have f3_ := HS.out.c 2 2 (v := .slice B3 l0.length b3) rfl rfl; have f4_ := HS.out.c 0 0 (v := .int .i64 d1) rfl rfl; have f5_ := HS.out.c 0 1 (v := .int .i64 n1) rfl rfl; have f6_ := HS.out.c 0 2 (v := .slice B4 l1.length b4) rfl rfl) | (go_at_call 56; refine (implPairSeries d0 n0 B3 b3 l0 d1 n1 B4 b4 l1 _ (HS.out.reads 3 rfl) (HS.out.cap 3 rfl) (hz0 (by omega)) (HS.out.reads 1 rfl) (HS.out.cap 1 rfl) (hz1 (by omega))).mono ?_; rintro e_ w1 ⟨rfl, hb⟩; replace HS := sB HS hb; clear hb f1_ f2_ f3_ f4_ f5_ f6_) | ((with_reducible refine gate_dst (N := 10) rfl ?_); refine bxL 24 #[(.int .i64 0), (.int .i64 0)] HS ?_; clear HS; intro g_bg0 w1 hg_bg0 HS) | ((with_reducible refine gate_store (t := 24) (p := 10) rfl ?_); refine stL HS 0 0 #[.int .i64 (pairR d0 n0 l0 d1 n1 l1).1, .int .i64 (pairR d0 n0 l0 d1 n1 l1).2.1] rfl rfl rfl rfl rfl ?_; clear HS; intro w1 HS; have f1_ := HS.out.c 0 0 (v := .int .i64 (pairR d0 n0 l0 d1 n1 l1).1) rfl rfl; have f2_ := HS.out.c 0 1 (v := .int .i64 (pairR d0 n0 l0 d1 n1 l1).2.1) rfl rfl; have f3_ := HS.out.c 5 0 (v := .int .i64 (pairR d0 n0 l0 d1 n1 l1).1) rfl rfl; have f4_ := HS.out.c 5 1 (v := .int .i64 (pairR d0 n0 l0 d1 n1 l1).2.1) rfl rfl) | (go_at_call 33; refine (lawEqFraction _ _ _).mono ?_; rintro e_ w1 ⟨rfl, hb⟩; replace HS := sB HS hb; clear hb f1_ f2_ f3_ f4_))
  repeat (focus (go_ret; exact ⟨rfl, HS.out.below⟩; done))
  replace HS := sD HS
  refine ps (.t 0 (.t 1 (.e 2 (.d 3 (.p 4 .done))))) (fun w' => w'.cell? ⟨g_bx0, 0, none⟩ = some (.int .i64 d0) ∧ w'.cell? ⟨g_bx0, 1, none⟩ = some (.int .i64 n0) ∧ w'.cell? ⟨g_bx0, 2, none⟩ = some (.slice B3 l0.length b3) ∧ w'.cell? ⟨g_as0, 0, none⟩ = some (.int .i64 d0) ∧ w'.cell? ⟨g_as0, 1, none⟩ = some (.int .i64 n0) ∧ w'.cell? ⟨g_as0, 2, none⟩ = some (.slice A0 l0.length c0)) [3] ⟨HS.out.c 3 0 (v := .int .i64 d0) rfl rfl, HS.out.c 3 1 (v := .int .i64 n0) rfl rfl, HS.out.c 3 2 (v := .slice B3 l0.length b3) rfl rfl, HS.out.c 9 0 (v := .int .i64 d0) rfl rfl, HS.out.c 9 1 (v := .int .i64 n0) rfl rfl, HS.out.c 9 2 (v := .slice A0 l0.length c0) rfl rfl⟩ (fun hHeld => ?_)
  repeat (first | ((with_reducible refine gate_p ?_); refine rp rfl rfl ?_) | ((with_reducible refine gate_t ?_); refine rt rfl rfl hHeld ?_))
  refine run_e rfl (fun K hK => ?_)
  refine gc Try.func41 (lawSeries d0 n0 A0 c0 l0 _ (HS.out.oldC HR0.out) (bnd_iff.1 (hz0 (by omega))).1) rfl rfl ?_
  rintro e_ w1 ⟨B5, b5, rfl, hs⟩
  refine ⟨_, rfl, ?_⟩
  replace HS := sN1 HS hs
  clear hs
  refine ge hK ⟨HS.out.c 4 0 (v := .int .i64 d0) rfl rfl, HS.out.c 4 1 (v := .int .i64 n0) rfl rfl, HS.out.c 4 2 (v := .slice B3 l0.length b3) rfl rfl, HS.out.c 10 0 (v := .int .i64 d0) rfl rfl, HS.out.c 10 1 (v := .int .i64 n0) rfl rfl, HS.out.c 10 2 (v := .slice A0 l0.length c0) rfl rfl⟩ (fun hHeld => ?_)
  clear hK K
  refine run_d rfl (fun K hK => ?_)
  refine gc Try.func36 (lawEqSeries d0 n0 B3 B5 b3 b5 l0 _ (HS.out.reads 5 rfl) (HS.out.reads 0 rfl) (bnd_iff.1 (hz0 (by omega))).1) rfl rfl ?_
  rintro e_ w1 ⟨rfl, hb⟩
  refine ⟨_, rfl, ?_⟩
  replace HS := sB HS hb
  clear hb
  refine gd hK ?_
  clear hK K
  repeat (first | ((with_reducible refine gate_p ?_); refine rp rfl rfl ?_) | ((with_reducible refine gate_t ?_); refine rt rfl rfl hHeld ?_))
  refine run_done ?_
  clear hHeld
  go_wp2
  repeat (focus (go_ret; exact ⟨rfl, HS.out.below⟩; done))
  replace HS := sD HS
  refine ps (.t 0 (.t 1 (.e 2 (.d 3 (.p 4 .done))))) (fun w' => w'.cell? ⟨g_bx1, 0, none⟩ = some (.int .i64 d1) ∧ w'.cell? ⟨g_bx1, 1, none⟩ = some (.int .i64 n1) ∧ w'.cell? ⟨g_bx1, 2, none⟩ = some (.slice B4 l1.length b4) ∧ w'.cell? ⟨g_as1, 0, none⟩ = some (.int .i64 d1) ∧ w'.cell? ⟨g_as1, 1, none⟩ = some (.int .i64 n1) ∧ w'.cell? ⟨g_as1, 2, none⟩ = some (.slice A1 l1.length c1)) [3] ⟨HS.out.c 2 0 (v := .int .i64 d1) rfl rfl, HS.out.c 2 1 (v := .int .i64 n1) rfl rfl, HS.out.c 2 2 (v := .slice B4 l1.length b4) rfl rfl, HS.out.c 9 0 (v := .int .i64 d1) rfl rfl, HS.out.c 9 1 (v := .int .i64 n1) rfl rfl, HS.out.c 9 2 (v := .slice A1 l1.length c1) rfl rfl⟩ (fun hHeld => ?_)
  repeat (first | ((with_reducible refine gate_p ?_); refine rp rfl rfl ?_) | ((with_reducible refine gate_t ?_); refine rt rfl rfl hHeld ?_))
  refine run_e rfl (fun K hK => ?_)
  refine gc Try.func41 (lawSeries d1 n1 A1 c1 l1 _ (HS.out.oldC HR1.out) (bnd_iff.1 (hz1 (by omega))).1) rfl rfl ?_
  rintro e_ w1 ⟨B6, b6, rfl, hs⟩
  refine ⟨_, rfl, ?_⟩
  replace HS := sN1 HS hs
  clear hs
  refine ge hK ⟨HS.out.c 3 0 (v := .int .i64 d1) rfl rfl, HS.out.c 3 1 (v := .int .i64 n1) rfl rfl, HS.out.c 3 2 (v := .slice B4 l1.length b4) rfl rfl, HS.out.c 10 0 (v := .int .i64 d1) rfl rfl, HS.out.c 10 1 (v := .int .i64 n1) rfl rfl, HS.out.c 10 2 (v := .slice A1 l1.length c1) rfl rfl⟩ (fun hHeld => ?_)
  clear hK K
  refine run_d rfl (fun K hK => ?_)
  refine gc Try.func36 (lawEqSeries d1 n1 B4 B6 b4 b6 l1 _ (HS.out.reads 4 rfl) (HS.out.reads 0 rfl) (bnd_iff.1 (hz1 (by omega))).1) rfl rfl ?_
  rintro e_ w1 ⟨rfl, hb⟩
  refine ⟨_, rfl, ?_⟩
  replace HS := sB HS hb
  clear hb
  refine gd hK ?_
  clear hK K
  repeat (first | ((with_reducible refine gate_p ?_); refine rp rfl rfl ?_) | ((with_reducible refine gate_t ?_); refine rt rfl rfl hHeld ?_))
  refine run_done ?_
  clear hHeld
  go_wp2
  repeat (focus (go_ret; exact ⟨rfl, HS.out.below⟩; done))
end Go.Proofs.Ytcklblagklojhaa.H

