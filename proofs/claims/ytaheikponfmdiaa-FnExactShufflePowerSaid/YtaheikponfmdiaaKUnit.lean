/- UnitSeries, CoefficientOf: what the program and the reference return. Conditions: the bounds that stand in each statement. -/
import Derived.Test.YtaheikponfmdiaaKBasic
namespace Go.Proofs.Ytaheikponfmdiaa.M
def unitR (d n : Int) : Rs := if lev d n = true then (d, n, unitT, 0) else noS 2
def coefR (d n : Int) (l : Ts) (s : ByteArray) : Rf := if isS d n l = true then if (s.size : Int) ≤ n ∧ isWd d.toNat s = true then ((co l s).1, (co l s).2, 0) else (0, 0, 2) else (0, 0, 1)
theorem unit_len (d n : Int) : (unitR d n).2.2.1.length ≤ 1048576 := by
  unfold unitR noS; split
  · show (1 : Nat) ≤ _; decide
  · show (0 : Nat) ≤ _; decide
end Go.Proofs.Ytaheikponfmdiaa.M
namespace Go.Proofs.Ytaheikponfmdiaa.H
open Go.RowKit Go.Proofs.YtaheikponfmdiaaW.PrintWords Go.Proofs.YtaheikponfmdiaaW.PrintLast Go.Proofs.YtaheikponfmdiaaW.PrintMore Go.Proofs.Ytaheikponfmdiaa.M
attribute [local go_sem] max2_int min2_int max_two min_two max_three min_three max_four min_four
set_option linter.unusedVariables false
set_option linter.unusedSimpArgs false
set_option maxRecDepth 100000
set_option maxHeartbeats 4000000 in
theorem specUnitSeries (d n : Int) (w : World) : Calls Try.prog 67 #[.int .i64 d, .int .i64 n] w (RetS w (unitR d n)) := by
  have HS := Aside0.mk (Sep.refl w)
  unfold unitR
  cases h : lev d n with
  | false =>
    go_enter Try.func67, Try.ntmps67
    go_wp2_with (first | ((with_reducible refine gate_dst (N := 4) rfl ?_); refine bxL 24 #[(.int .i64 0), (.int .i64 0), (.slice none 0 0)] HS ?_; clear HS; intro g_r w1 hg_r HS) | (go_at_call 145; refine (specLevel2 _ _ _).mono ?_; rintro e_ w1 ⟨rfl, hb⟩; replace HS := sB HS hb; clear hb) | ((with_reducible refine gate_store (t := 24) (p := 4) rfl ?_); refine stL HS 0 0 #[(.int .i64 0), (.int .i64 0), (.slice none 0 0)] rfl rfl rfl rfl rfl ?_; clear HS; intro w1 HS))
    refine bodyPost_ret (results_cell_tmp_row rfl _ _ g_r 24 #[(.int .i64 0), (.int .i64 0), (.slice none 0 0)] (0, 0) _ rfl (HS.out.at (i := 0) rfl) Try.underlying24 rfl (by kernel_rfl)) rfl ?_
    replace HS : Aside0 (Mod _ _ _ []) := sX HS []
    exact ⟨none, 0, rfl, nilS HS.out⟩
  | true =>
    go_enter Try.func67, Try.ntmps67
    go_wp2_with (first | ((with_reducible refine gate_dst (N := 4) rfl ?_); refine bxL 24 #[(.int .i64 0), (.int .i64 0), (.slice none 0 0)] HS ?_; clear HS; intro g_r w1 hg_r HS) | (go_at_call 145; refine (specLevel2 _ _ _).mono ?_; rintro e_ w1 ⟨rfl, hb⟩; replace HS := sB HS hb; clear hb) | (go_at_call 142; refine (specUnit d n none 0 0 _).mono ?_; rintro e_ w1 ⟨B, b, rfl, hs⟩; replace HS := sN1 HS hs; clear hs) | ((with_reducible refine gate_store (t := 24) (p := 4) rfl ?_); refine stL HS 1 0 #[.int .i64 d, .int .i64 n, .slice B unitT.length b] rfl rfl rfl rfl rfl ?_; clear HS; intro w1 HS))
    refine bodyPost_ret (results_cell_tmp_row rfl _ _ g_r 24 #[.int .i64 d, .int .i64 n, .slice B unitT.length b] (0, 0) _ rfl (HS.out.at (i := 1) rfl) Try.underlying24 rfl (by kernel_rfl)) rfl ?_
    replace HS : Aside0 (Mod _ _ _ [_]) := sX HS [0]
    exact ⟨B, b, rfl, HS.out⟩
set_option maxHeartbeats 4000000 in
theorem implUnitSeries (d n : Int) (w : World) : Calls Try.prog 66 #[.int .i64 d, .int .i64 n] w (RetS w (unitR d n)) := by
  have HS := Aside0.mk (Sep.refl w)
  unfold unitR
  cases h : lev d n with
  | false =>
    go_enter Try.func66, Try.ntmps66
    go_wp2_with (first | ((with_reducible refine gate_dst (N := 4) rfl ?_); refine bxL 24 #[(.int .i64 0), (.int .i64 0), (.slice none 0 0)] HS ?_; clear HS; intro g_r w1 hg_r HS) | (go_at_call 84; refine (implLevel _ _ _).mono ?_; rintro e_ w1 ⟨rfl, hb⟩; replace HS := sB HS hb; clear hb) | ((with_reducible refine gate_store (t := 24) (p := 4) rfl ?_); refine stL HS 0 0 #[(.int .i64 0), (.int .i64 0), (.slice none 0 0)] rfl rfl rfl rfl rfl ?_; clear HS; intro w1 HS))
    refine bodyPost_ret (results_cell_tmp_row rfl _ _ g_r 24 #[(.int .i64 0), (.int .i64 0), (.slice none 0 0)] (0, 0) _ rfl (HS.out.at (i := 0) rfl) Try.underlying24 rfl (by kernel_rfl)) rfl ?_
    replace HS : Aside0 (Mod _ _ _ []) := sX HS []
    exact ⟨none, 0, rfl, nilS HS.out⟩
  | true =>
    obtain ⟨d, n, rfl, rfl, hd1, hd3, hn1, hn5⟩ := lev_nat h
    have HL := Aside0.mk h
    have HU := Aside0.mk (show toldR d n (upd (fun _ => (0, 1)) eps (1, 1), false) = ((d : Int), (n : Int), unitT, 0) by unfold toldR; rw [if_neg (by simp), tabT_unit (by omega)])
    have HTo := Aside0.mk (fun g v W h1 h2 => HU.out ▸ implTold g v d n false (upd (fun _ => (0, 1)) eps (1, 1)) W HL.out h1 h2)
    go_enter Try.func66, Try.ntmps66
    go_wp2_with (first | ((with_reducible refine gate_dst (N := 4) rfl ?_); refine bxL 24 #[(.int .i64 0), (.int .i64 0), (.slice none 0 0)] HS ?_; clear HS; intro g_r w1 hg_r HS) | (go_at_call 84; refine (implLevel _ _ _).mono ?_; rintro e_ w1 ⟨rfl, hb⟩; replace HS := sB HS hb; clear hb) | (go_at_call 143; refine (implNew d n HL.out _).mono ?_; rintro e_ w1 ⟨g, v, rfl, hs⟩; replace HS := sN2 HS hs; clear hs) | (go_at_call 144; refine (implUnit g v d n _ false _ HL.out (HS.out.at (i := 0) rfl)).mono ?_; rintro e_ w1 ⟨g', v', rfl, hs⟩; replace HS := sN2 HS hs; clear hs) | (go_at_call 89; refine (HTo.out g' v' _ (HS.out.at (i := 0) rfl) (HS.out.at (i := 1) rfl)).mono ?_; rintro e_ w1 ⟨B, b, rfl, hs⟩; replace HS := sN1 HS hs; clear hs) | ((with_reducible refine gate_store (t := 24) (p := 4) rfl ?_); refine stL HS 5 0 #[.int .i64 (d : Int), .int .i64 (n : Int), .slice B unitT.length b] rfl rfl rfl rfl rfl ?_; clear HS; intro w1 HS))
    refine bodyPost_ret (results_cell_tmp_row rfl _ _ g_r 24 #[.int .i64 (d : Int), .int .i64 (n : Int), .slice B unitT.length b] (0, 0) _ rfl (HS.out.at (i := 5) rfl) Try.underlying24 rfl (by kernel_rfl)) rfl ?_
    replace HS : Aside0 (Mod _ _ _ [_]) := sX HS [0]
    exact ⟨B, b, rfl, HS.out⟩
set_option maxHeartbeats 4000000 in
theorem implCoefficientOf (d n : Int) (A : Option Addr) (c : Nat) (l : Ts) (s : ByteArray) (w : World) (hr : KT.C w A l.length l) (hc : l.length ≤ c) (hb : bnd l = true) (hsz : s.size ≤ 1048576) :
    Calls Try.prog 54 #[.agg #[.int .i64 d, .int .i64 n, .slice A l.length c], .string s] w (RetF w (coefR d n l s)) := by
  have HR := Aside0.mk hr
  have HB := Aside0.mk hb
  have hll := (bnd_iff.1 hb).1
  have HS := Aside0.mk (Sep.refl w)
  clear hr hb
  unfold coefR
  cases h : isS d n l with
  | false =>
    go_enter Try.func54, Try.ntmps54
    go_wp2_with (first | ((with_reducible refine gate_dst (N := 2) rfl ?_); refine bxL 24 #[.int .i64 d, .int .i64 n, .slice A l.length c] HS ?_; clear HS; intro g_x w1 hg_x HS) | ((with_reducible refine gate_dst (N := 4) rfl ?_); refine bxL 35 #[(.int .i64 0), (.int .i64 0)] HS ?_; clear HS; intro g_r w1 hg_r HS; have f1_ := HS.out.c 1 0 (v := .int .i64 d) rfl rfl; have f2_ := HS.out.c 1 1 (v := .int .i64 n) rfl rfl; have f3_ := HS.out.c 1 2 (v := .slice A l.length c) rfl rfl) | (go_at_call 98; refine (implIs d n A c l _ (HS.out.oldC HR.out) hc HB.out).mono ?_; rintro e_ w1 ⟨rfl, hb⟩; replace HS := sB HS hb; clear hb f1_ f2_ f3_) | ((with_reducible refine gate_store (t := 35) (p := 4) rfl ?_); refine stL HS 0 0 #[(.int .i64 0), (.int .i64 0)] rfl rfl rfl rfl rfl ?_; clear HS; intro w1 HS))
    refine bodyPost_ret (results_cell_tmp_row rfl _ _ g_r 35 #[(.int .i64 0), (.int .i64 0)] (0, 0) _ rfl (HS.out.at (i := 0) rfl) Try.underlying35 rfl (by kernel_rfl)) rfl ?_
    exact ⟨rfl, HS.out.below⟩
  | true =>
    have HX := Aside0.mk (isS_t h)
    have hlev := isS_l h
    obtain ⟨d, n, rfl, rfl, hd1, hd3, hn1, hn5⟩ := lev_nat hlev
    have HL := Aside0.mk hlev
    clear hlev
    rw [Int.toNat_natCast, Int.toNat_natCast] at HX
    cases hw : isWd d s && decide (s.size ≤ n) with
    | false =>
      have hnn : ¬ ((s.size : Int) ≤ n ∧ isWd (d : Int).toNat s = true) := fun h => by
        have h2 := h.2
        rw [Int.toNat_natCast] at h2
        have h1 : s.size ≤ n := by omega
        simp [h2, h1] at hw
      rw [if_pos rfl, if_neg hnn]
      clear hnn
      go_enter Try.func54, Try.ntmps54
      go_wp2_with (first | ((with_reducible refine gate_dst (N := 2) rfl ?_); refine bxL 24 #[.int .i64 (d : Int), .int .i64 (n : Int), .slice A l.length c] HS ?_; clear HS; intro g_x w1 hg_x HS) | ((with_reducible refine gate_dst (N := 4) rfl ?_); refine bxL 35 #[(.int .i64 0), (.int .i64 0)] HS ?_; clear HS; intro g_r w1 hg_r HS; have f1_ := HS.out.c 1 0 (v := .int .i64 (d : Int)) rfl rfl; have f2_ := HS.out.c 1 1 (v := .int .i64 (n : Int)) rfl rfl; have f3_ := HS.out.c 1 2 (v := .slice A l.length c) rfl rfl) | (go_at_call 98; refine (implIs d n A c l _ (HS.out.oldC HR.out) hc HB.out).mono ?_; rintro e_ w1 ⟨rfl, hb⟩; replace HS := sB HS hb; clear hb f1_ f2_ f3_; have f1_ := HS.out.c 1 0 (v := .int .i64 (d : Int)) rfl rfl; have f2_ := HS.out.c 1 1 (v := .int .i64 (n : Int)) rfl rfl) | (go_at_call 85; refine (implWord d n (by omega) s (by omega) _).mono ?_; rintro e_ w1 ⟨rfl, hb⟩; replace HS := sB HS hb; clear hb f1_ f2_) | ((with_reducible refine gate_store (t := 35) (p := 4) rfl ?_); refine stL HS 0 0 #[(.int .i64 0), (.int .i64 0)] rfl rfl rfl rfl rfl ?_; clear HS; intro w1 HS))
      refine bodyPost_ret (results_cell_tmp_row rfl _ _ g_r 35 #[(.int .i64 0), (.int .i64 0)] (0, 0) _ rfl (HS.out.at (i := 0) rfl) Try.underlying35 rfl (by kernel_rfl)) rfl ?_
      exact ⟨rfl, HS.out.below⟩
    | true =>
      have hw2 := hw
      rw [Bool.and_eq_true, decide_eq_true_eq] at hw2
      have HW := Aside0.mk hw2
      have hnn : (s.size : Int) ≤ n ∧ isWd (d : Int).toNat s = true := ⟨by omega, by rw [Int.toNat_natCast]; exact hw2.1⟩
      rw [if_pos rfl, if_pos hnn]
      clear hnn hw2
      go_enter Try.func54, Try.ntmps54
      go_wp2_with (first | ((with_reducible refine gate_dst (N := 2) rfl ?_); refine bxL 24 #[.int .i64 (d : Int), .int .i64 (n : Int), .slice A l.length c] HS ?_; clear HS; intro g_x w1 hg_x HS) | ((with_reducible refine gate_dst (N := 4) rfl ?_); refine bxL 35 #[(.int .i64 0), (.int .i64 0)] HS ?_; clear HS; intro g_r w1 hg_r HS; have f1_ := HS.out.c 1 0 (v := .int .i64 (d : Int)) rfl rfl; have f2_ := HS.out.c 1 1 (v := .int .i64 (n : Int)) rfl rfl; have f3_ := HS.out.c 1 2 (v := .slice A l.length c) rfl rfl) | (go_at_call 98; refine (implIs d n A c l _ (HS.out.oldC HR.out) hc HB.out).mono ?_; rintro e_ w1 ⟨rfl, hb⟩; replace HS := sB HS hb; clear hb f1_ f2_ f3_; have f1_ := HS.out.c 1 0 (v := .int .i64 (d : Int)) rfl rfl; have f2_ := HS.out.c 1 1 (v := .int .i64 (n : Int)) rfl rfl) | (go_at_call 85; refine (implWord d n (by omega) s (by omega) _).mono ?_; rintro e_ w1 ⟨rfl, hb⟩; replace HS := sB HS hb; clear hb f1_ f2_; have f1_ := HS.out.c 1 0 (v := .int .i64 (d : Int)) rfl rfl; have f2_ := HS.out.c 1 1 (v := .int .i64 (n : Int)) rfl rfl; have f3_ := HS.out.c 1 2 (v := .slice A l.length c) rfl rfl) | (go_at_call 100; refine (implOpen d n A c l _ HL.out (HS.out.oldC HR.out) HX.out).mono ?_; rintro e_ w1 ⟨g, v, rfl, hs⟩; replace HS := sN2 HS hs; clear hs f1_ f2_ f3_) | (go_at_call 109; refine (implAt g v d n false (co l) s _ HL.out (HS.out.at (i := 0) rfl) (HS.out.at (i := 1) rfl) HW.out.1 HW.out.2).mono ?_; rintro e_ w1 ⟨rfl, hb⟩; replace HS := sB HS hb; clear hb) | ((with_reducible refine gate_store (t := 35) (p := 4) rfl ?_); refine stL HS 2 0 #[.int .i64 (co l s).1, .int .i64 (co l s).2] rfl rfl rfl rfl rfl ?_; clear HS; intro w1 HS))
      refine bodyPost_ret (results_cell_tmp_row rfl _ _ g_r 35 #[.int .i64 (co l s).1, .int .i64 (co l s).2] (0, 0) _ rfl (HS.out.at (i := 2) rfl) Try.underlying35 rfl (by kernel_rfl)) rfl ?_
      exact ⟨rfl, HS.out.below⟩
end Go.Proofs.Ytaheikponfmdiaa.H


