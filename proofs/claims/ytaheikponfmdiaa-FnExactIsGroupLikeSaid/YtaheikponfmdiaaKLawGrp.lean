/- The law of IsGroupLike: its call returns true. Conditions: those of arguments that can be read. -/
import Derived.Test.YtaheikponfmdiaaKHoldIT
import Derived.Test.YtaheikponfmdiaaKLaw
namespace Go.Proofs.Ytaheikponfmdiaa.H
open Go.RowKit Go.Proofs.YtaheikponfmdiaaW.PrintWords Go.Proofs.YtaheikponfmdiaaW.PrintLast Go.Proofs.YtaheikponfmdiaaW.PrintMore Go.Proofs.Ytaheikponfmdiaa.M
set_option linter.unusedVariables false
set_option linter.unusedSimpArgs false
set_option maxRecDepth 100000
set_option maxHeartbeats 16000000 in
theorem lawIsGroupLike (d0 n0 : Int) (A0 : Option Addr) (c0 : Nat) (l0 : Ts) (w : World) (hl0 : l0.length ≤ c0) (hm0 : ∀ t ∈ l0, t.1.size ≤ 9223372036854775807) (hr0 : KT.C w A0 l0.length l0) :
    Calls Try.prog 6 #[.agg #[.int .i64 d0, .int .i64 n0, .slice A0 l0.length c0]] w fun e w' => e = .returned (.bool true) ∧ Below w.heap.size w w' := by
  have HR0 := Aside0.mk hr0
  have HM0 := Aside0.mk hm0
  have hlm0 : l0.length ≤ 9223372036854775807 := Kd.C_max hr0
  have hneb : ((holdR true d0 n0 l0).1 != (holdR true d0 n0 l0).1) = false := by simp
  have HS := Aside0.mk (Sep.refl w)
  have hne : ((holdR true d0 n0 l0).2 != (holdR true d0 n0 l0).2) = false := by simp
  clear hr0 hm0
  go_enter Try.func6, Try.ntmps6
  have tk1_ : True := trivial
  go_wp2_with (first | ((with_reducible refine gate_dst (N := 1) rfl ?_); refine bxL 32 #[.int .i64 d0, .int .i64 n0, .slice A0 l0.length c0] HS ?_; clear HS; intro g_as0 w1 hg_as0 HS; have f1_ := HS.out.c 0 0 (v := .int .i64 d0) rfl rfl; have f2_ := HS.out.c 0 1 (v := .int .i64 n0) rfl rfl; have f3_ := HS.out.c 0 2 (v := .slice A0 l0.length c0) rfl rfl) | (go_at_call 19; refine (lawSzSeries d0 n0 A0 c0 l0 1048576 _ (HS.out.oldC HR0.out) hlm0 HM0.out (by omega) (by omega)).mono ?_; rintro e_ w1 ⟨v0, rfl, hv0, hu0, hz0, hb⟩; replace HS := sB HS hb; clear hb f1_ f2_ f3_; have f1_ := HS.out.c 0 0 (v := .int .i64 d0) rfl rfl; have f2_ := HS.out.c 0 1 (v := .int .i64 n0) rfl rfl; have f3_ := HS.out.c 0 2 (v := .slice A0 l0.length c0) rfl rfl) | (go_at_call 21; clear tk1_; refine (lawSeries d0 n0 A0 c0 l0 _ (HS.out.oldC HR0.out) (bnd_iff.1 (hz0 (by omega))).1).mono ?_; rintro e_ w1 ⟨B1, b1, rfl, hs⟩; replace HS := sN1 HS hs; clear hs f1_ f2_ f3_) | (go_at_call 26; refine (specIsGroupLike d0 n0 B1 b1 l0 _ (HS.out.reads 0 rfl) (HS.out.cap 0 rfl) (hz0 (by omega))).mono ?_; rintro e_ w1 ⟨rfl, hb⟩; replace HS := sB HS hb; clear hb; have f1_ := HS.out.c 1 0 (v := .int .i64 d0) rfl rfl; have f2_ := HS.out.c 1 1 (v := .int .i64 n0) rfl rfl; have f3_ := HS.out.c 1 2 (v := .slice A0 l0.length c0) rfl rfl) | (go_at_call 21; refine (lawSeries d0 n0 A0 c0 l0 _ (HS.out.oldC HR0.out) (bnd_iff.1 (hz0 (by omega))).1).mono ?_; rintro e_ w1 ⟨B2, b2, rfl, hs⟩; replace HS := sN1 HS hs; clear hs f1_ f2_ f3_) | ((with_reducible refine gate_dst (N := 6) rfl ?_); refine bxL 24 #[(.int .i64 0), (.int .i64 0), (.slice none 0 0)] HS ?_; clear HS; intro g_bw0 w1 hg_bw0 HS) | ((with_reducible refine gate_store (t := 24) (p := 6) rfl ?_); refine stL HS 0 0 #[.int .i64 d0, .int .i64 n0, .slice B2 l0.length b2] rfl rfl rfl rfl rfl ?_; clear HS; intro w1 HS; have f1_ := HS.out.c 0 0 (v := .int .i64 d0) rfl rfl; have f2_ := HS.out.c 0 1 (v := .int .i64 n0) rfl rfl; have f3_ := HS.out.c 0 2 (v := .slice B2 l0.length b2) rfl rfl) | (go_at_call 27; refine (implIsGroupLike d0 n0 B2 b2 l0 _ (HS.out.reads 1 rfl) (HS.out.cap 1 rfl) (hz0 (by omega))).mono ?_; rintro e_ w1 ⟨rfl, hb⟩; replace HS := sB HS hb; clear hb f1_ f2_ f3_))
  repeat (focus (go_ret; exact ⟨rfl, HS.out.below⟩; done))
  replace HS := sD HS
  refine ps (.t 0 (.t 1 (.e 2 (.d 3 (.p 4 .done))))) (fun w' => w'.cell? ⟨g_bw0, 0, none⟩ = some (.int .i64 d0) ∧ w'.cell? ⟨g_bw0, 1, none⟩ = some (.int .i64 n0) ∧ w'.cell? ⟨g_bw0, 2, none⟩ = some (.slice B2 l0.length b2) ∧ w'.cell? ⟨g_as0, 0, none⟩ = some (.int .i64 d0) ∧ w'.cell? ⟨g_as0, 1, none⟩ = some (.int .i64 n0) ∧ w'.cell? ⟨g_as0, 2, none⟩ = some (.slice A0 l0.length c0)) [3] ⟨HS.out.c 0 0 (v := .int .i64 d0) rfl rfl, HS.out.c 0 1 (v := .int .i64 n0) rfl rfl, HS.out.c 0 2 (v := .slice B2 l0.length b2) rfl rfl, HS.out.c 3 0 (v := .int .i64 d0) rfl rfl, HS.out.c 3 1 (v := .int .i64 n0) rfl rfl, HS.out.c 3 2 (v := .slice A0 l0.length c0) rfl rfl⟩ (fun hHeld => ?_)
  repeat (first | ((with_reducible refine gate_p ?_); refine rp rfl rfl ?_) | ((with_reducible refine gate_t ?_); refine rt rfl rfl hHeld ?_))
  refine run_e rfl (fun K hK => ?_)
  refine gc Try.func21 (lawSeries d0 n0 A0 c0 l0 _ (HS.out.oldC HR0.out) (bnd_iff.1 (hz0 (by omega))).1) rfl rfl ?_
  rintro e_ w1 ⟨B3, b3, rfl, hs⟩
  refine ⟨_, rfl, ?_⟩
  replace HS := sN1 HS hs
  clear hs
  refine ge hK ⟨HS.out.c 1 0 (v := .int .i64 d0) rfl rfl, HS.out.c 1 1 (v := .int .i64 n0) rfl rfl, HS.out.c 1 2 (v := .slice B2 l0.length b2) rfl rfl, HS.out.c 4 0 (v := .int .i64 d0) rfl rfl, HS.out.c 4 1 (v := .int .i64 n0) rfl rfl, HS.out.c 4 2 (v := .slice A0 l0.length c0) rfl rfl⟩ (fun hHeld => ?_)
  clear hK K
  refine run_d rfl (fun K hK => ?_)
  refine gc Try.func16 (lawEqSeries d0 n0 B2 B3 b2 b3 l0 _ (HS.out.reads 2 rfl) (HS.out.reads 0 rfl) (bnd_iff.1 (hz0 (by omega))).1) rfl rfl ?_
  rintro e_ w1 ⟨rfl, hb⟩
  refine ⟨_, rfl, ?_⟩
  replace HS := sB HS hb
  clear hb
  refine gd hK ?_
  clear hK K
  repeat (first | ((with_reducible refine gate_p ?_); refine rp rfl rfl ?_) | ((with_reducible refine gate_t ?_); refine rt rfl rfl hHeld ?_))
  refine run_done ?_
  clear hHeld
  go_wp2
  repeat (focus (go_ret; exact ⟨rfl, HS.out.below⟩; done))
end Go.Proofs.Ytaheikponfmdiaa.H


