/- ShuffleSeries: what the program and the reference return. Conditions: the bounds that stand in each statement. -/
import Derived.Test.YtaheikponfmdiaaKShufSF
import Derived.Test.YtaheikponfmdiaaKShufIF
import Derived.Test.YtaheikponfmdiaaKCode
namespace Go.Proofs.Ytaheikponfmdiaa.H
open Go.RowKit Go.Proofs.YtaheikponfmdiaaW.PrintWords Go.Proofs.YtaheikponfmdiaaW.PrintLast Go.Proofs.YtaheikponfmdiaaW.PrintMore Go.Proofs.Ytaheikponfmdiaa.M
attribute [local go_sem] max2_int min2_int max_two min_two max_three min_three max_four min_four resQ
set_option linter.unusedVariables false
set_option linter.unusedSimpArgs false
set_option maxRecDepth 100000
set_option maxHeartbeats 8000000 in
theorem specShuffleSeries (d n : Int) (A : Option Addr) (c : Nat) (l : Ts) (d2 n2 : Int) (A2 : Option Addr) (cc : Nat) (l2 : Ts) (w : World) (hr : KT.C w A l.length l) (hc : l.length ≤ c) (hb : bnd l = true) (hr2 : KT.C w A2 l2.length l2) (hcc : l2.length ≤ cc) (hb2 : bnd l2 = true) :
    Calls Try.prog 28 #[.agg #[.int .i64 d, .int .i64 n, .slice A l.length c], .agg #[.int .i64 d2, .int .i64 n2, .slice A2 l2.length cc]] w (RetS w (twoR shF d n l d2 n2 l2)) := by
  have HR := Aside0.mk hr
  have HB := Aside0.mk hb
  have HR2 := Aside0.mk hr2
  have HB2 := Aside0.mk hb2
  have HS := Aside0.mk (Sep.refl w)
  clear hr hb hr2 hb2
  have HC := Aside0.mk (fun q W k1 k2 k3 => specCode d n A c l d2 n2 A2 cc l2 q W k1 hc HB.out k2 hcc HB2.out k3)
  unfold twoR
  obtain ⟨k, hk⟩ : ∃ k, k = codeR d n l d2 n2 l2 := ⟨_, rfl⟩
  rw [← hk] at HC
  rw [← hk]
  by_cases h0 : k = 0
  · subst h0
    obtain ⟨h1, h2, h3, h4⟩ := codeR_zero hk.symm
    subst h3 h4
    clear hk
    obtain ⟨d, n, rfl, rfl, hd1, hd3, hn1, hn5⟩ := lev_nat (isS_l h1)
    have HP := Aside0.mk (fun W k1 k2 => shF_def d n l l2 ▸ specShuffleF d n hd3 hn5 A c l A2 cc l2 W k1 hc k2 hcc (isS_t h1) (isS_t h2))
    rw [Int.toNat_natCast, Int.toNat_natCast]
    clear h1 h2
    rw [if_pos rfl]
    obtain ⟨o, ho⟩ : ∃ o, o = shF d n l l2 := ⟨_, rfl⟩
    rw [← ho] at HP
    rw [← ho]
    clear ho
    cases o with
    | none =>
      go_enter Try.func28, Try.ntmps28
      go_wp2_with (first | ((with_reducible refine gate_dst (N := 2) rfl ?_); refine bxL 24 #[.int .i64 (d : Int), .int .i64 (n : Int), .slice A l.length c] HS ?_; clear HS; intro g_p w1 hg_p HS) | ((with_reducible refine gate_dst (N := 3) rfl ?_); refine bxL 24 #[.int .i64 (d : Int), .int .i64 (n : Int), .slice A2 l2.length cc] HS ?_; clear HS; intro g_a w1 hg_a HS) | ((with_reducible refine gate_dst (N := 4) rfl ?_); refine bxL 24 #[(.int .i64 0), (.int .i64 0), (.slice none 0 0)] HS ?_; clear HS; intro g_r w1 hg_r HS; have f1_ := HS.out.c 2 0 (v := .int .i64 (d : Int)) rfl rfl; have f2_ := HS.out.c 2 1 (v := .int .i64 (n : Int)) rfl rfl; have f3_ := HS.out.c 2 2 (v := .slice A l.length c) rfl rfl; have f4_ := HS.out.c 1 0 (v := .int .i64 (d : Int)) rfl rfl; have f5_ := HS.out.c 1 1 (v := .int .i64 (n : Int)) rfl rfl; have f6_ := HS.out.c 1 2 (v := .slice A2 l2.length cc) rfl rfl) | ((with_reducible refine gate_dst (N := 11) rfl ?_); refine wpList_stp (fun K hK => ?_); refine stp_bs (by rfl) HS (cs := #[.int .i64 (d : Int), .int .i64 (n : Int), .slice A2 l2.length cc]) (t := 24) (m := 1) (by first | (go_simp; done) | (go_simp; rfl)) ?_; clear HS f1_ f2_ f3_ f4_ f5_ f6_; intro g_v w1 hg_v HS; refine hK _ _ ?_; clear hK K) | (go_at_call 111; refine (HC.out g_v _ (HS.out.oldC HR.out) (HS.out.oldC HR2.out) (HS.out.at (i := 0) rfl)).mono ?_; rintro e_ w1 ⟨rfl, hb⟩; replace HS := sB HS hb; clear hb; have f1_ := HS.out.c 3 0 (v := .int .i64 (d : Int)) rfl rfl; have f2_ := HS.out.c 3 1 (v := .int .i64 (n : Int)) rfl rfl; have f3_ := HS.out.c 3 2 (v := .slice A l.length c) rfl rfl; have f4_ := HS.out.c 2 0 (v := .int .i64 (d : Int)) rfl rfl; have f5_ := HS.out.c 2 1 (v := .int .i64 (n : Int)) rfl rfl; have f6_ := HS.out.c 2 2 (v := .slice A2 l2.length cc) rfl rfl) | (go_at_call 112; refine (HP.out _ (HS.out.oldC HR.out) (HS.out.oldC HR2.out)).mono ?_; rintro e_ w1 ⟨B, b, rfl, hs⟩; replace HS := sN1 HS hs; clear hs f1_ f2_ f3_ f4_ f5_ f6_) | ((with_reducible refine gate_dst (N := 7) rfl ?_); refine bxL 24 #[(.int .i64 0), (.int .i64 0), (.slice none 0 0)] HS ?_; clear HS; intro g_q w1 hg_q HS) | ((with_reducible refine gate_store (t := 24) (p := 7) rfl ?_); refine stL HS 0 0 #[.int .i64 0, .int .i64 0, .slice B ([] : Ts).length b] rfl rfl rfl rfl rfl ?_; clear HS; intro w1 HS) | ((with_reducible refine gate_store (t := 24) (p := 4) rfl ?_); refine stL HS 3 0 #[(.int .i64 0), (.int .i64 0), (.slice none 0 0)] rfl rfl rfl rfl rfl ?_; clear HS; intro w1 HS))
      refine bodyPost_ret (results_cell_tmp_row rfl _ _ g_r 24 #[(.int .i64 0), (.int .i64 0), (.slice none 0 0)] (0, 0) _ rfl (HS.out.at (i := 3) rfl) Try.underlying24 rfl (by kernel_rfl)) rfl ?_
      exact ⟨none, 0, rfl, nilS (HS.out.sel [] (by decide))⟩
    | some z =>
      go_enter Try.func28, Try.ntmps28
      go_wp2_with (first | ((with_reducible refine gate_dst (N := 2) rfl ?_); refine bxL 24 #[.int .i64 (d : Int), .int .i64 (n : Int), .slice A l.length c] HS ?_; clear HS; intro g_p w1 hg_p HS) | ((with_reducible refine gate_dst (N := 3) rfl ?_); refine bxL 24 #[.int .i64 (d : Int), .int .i64 (n : Int), .slice A2 l2.length cc] HS ?_; clear HS; intro g_a w1 hg_a HS) | ((with_reducible refine gate_dst (N := 4) rfl ?_); refine bxL 24 #[(.int .i64 0), (.int .i64 0), (.slice none 0 0)] HS ?_; clear HS; intro g_r w1 hg_r HS; have f1_ := HS.out.c 2 0 (v := .int .i64 (d : Int)) rfl rfl; have f2_ := HS.out.c 2 1 (v := .int .i64 (n : Int)) rfl rfl; have f3_ := HS.out.c 2 2 (v := .slice A l.length c) rfl rfl; have f4_ := HS.out.c 1 0 (v := .int .i64 (d : Int)) rfl rfl; have f5_ := HS.out.c 1 1 (v := .int .i64 (n : Int)) rfl rfl; have f6_ := HS.out.c 1 2 (v := .slice A2 l2.length cc) rfl rfl) | ((with_reducible refine gate_dst (N := 11) rfl ?_); refine wpList_stp (fun K hK => ?_); refine stp_bs (by rfl) HS (cs := #[.int .i64 (d : Int), .int .i64 (n : Int), .slice A2 l2.length cc]) (t := 24) (m := 1) (by first | (go_simp; done) | (go_simp; rfl)) ?_; clear HS f1_ f2_ f3_ f4_ f5_ f6_; intro g_v w1 hg_v HS; refine hK _ _ ?_; clear hK K) | (go_at_call 111; refine (HC.out g_v _ (HS.out.oldC HR.out) (HS.out.oldC HR2.out) (HS.out.at (i := 0) rfl)).mono ?_; rintro e_ w1 ⟨rfl, hb⟩; replace HS := sB HS hb; clear hb; have f1_ := HS.out.c 3 0 (v := .int .i64 (d : Int)) rfl rfl; have f2_ := HS.out.c 3 1 (v := .int .i64 (n : Int)) rfl rfl; have f3_ := HS.out.c 3 2 (v := .slice A l.length c) rfl rfl; have f4_ := HS.out.c 2 0 (v := .int .i64 (d : Int)) rfl rfl; have f5_ := HS.out.c 2 1 (v := .int .i64 (n : Int)) rfl rfl; have f6_ := HS.out.c 2 2 (v := .slice A2 l2.length cc) rfl rfl) | (go_at_call 112; refine (HP.out _ (HS.out.oldC HR.out) (HS.out.oldC HR2.out)).mono ?_; rintro e_ w1 ⟨B, b, rfl, hs⟩; replace HS := sN1 HS hs; clear hs f1_ f2_ f3_ f4_ f5_ f6_) | ((with_reducible refine gate_dst (N := 7) rfl ?_); refine bxL 24 #[(.int .i64 0), (.int .i64 0), (.slice none 0 0)] HS ?_; clear HS; intro g_q w1 hg_q HS) | ((with_reducible refine gate_store (t := 24) (p := 7) rfl ?_); refine stL HS 0 0 #[.int .i64 (d : Int), .int .i64 (n : Int), .slice B z.length b] rfl rfl rfl rfl rfl ?_; clear HS; intro w1 HS; have f1_ := HS.out.c 0 0 (v := .int .i64 (d : Int)) rfl rfl; have f2_ := HS.out.c 0 1 (v := .int .i64 (n : Int)) rfl rfl; have f3_ := HS.out.c 0 2 (v := .slice B z.length b) rfl rfl) | ((with_reducible refine gate_store (t := 24) (p := 4) rfl ?_); refine stL HS 3 0 #[.int .i64 (d : Int), .int .i64 (n : Int), .slice B z.length b] rfl rfl rfl rfl rfl ?_; clear HS f1_ f2_ f3_; intro w1 HS))
      refine bodyPost_ret (results_cell_tmp_row rfl _ _ g_r 24 #[.int .i64 (d : Int), .int .i64 (n : Int), .slice B z.length b] (0, 0) _ rfl (HS.out.at (i := 3) rfl) Try.underlying24 rfl (by kernel_rfl)) rfl ?_
      exact ⟨B, b, rfl, HS.out.sel [1] (by decide)⟩
  · have hkb : (k != 0) = true := by simpa using h0
    rw [if_neg h0]
    clear hk h0
    go_enter Try.func28, Try.ntmps28
    go_wp2_with (first | ((with_reducible refine gate_dst (N := 2) rfl ?_); refine bxL 24 #[.int .i64 d, .int .i64 n, .slice A l.length c] HS ?_; clear HS; intro g_p w1 hg_p HS) | ((with_reducible refine gate_dst (N := 3) rfl ?_); refine bxL 24 #[.int .i64 d2, .int .i64 n2, .slice A2 l2.length cc] HS ?_; clear HS; intro g_a w1 hg_a HS) | ((with_reducible refine gate_dst (N := 4) rfl ?_); refine bxL 24 #[(.int .i64 0), (.int .i64 0), (.slice none 0 0)] HS ?_; clear HS; intro g_r w1 hg_r HS; have f1_ := HS.out.c 2 0 (v := .int .i64 d) rfl rfl; have f2_ := HS.out.c 2 1 (v := .int .i64 n) rfl rfl; have f3_ := HS.out.c 2 2 (v := .slice A l.length c) rfl rfl; have f4_ := HS.out.c 1 0 (v := .int .i64 d2) rfl rfl; have f5_ := HS.out.c 1 1 (v := .int .i64 n2) rfl rfl; have f6_ := HS.out.c 1 2 (v := .slice A2 l2.length cc) rfl rfl) | ((with_reducible refine gate_dst (N := 11) rfl ?_); refine wpList_stp (fun K hK => ?_); refine stp_bs (by rfl) HS (cs := #[.int .i64 d2, .int .i64 n2, .slice A2 l2.length cc]) (t := 24) (m := 1) (by first | (go_simp; done) | (go_simp; rfl)) ?_; clear HS f1_ f2_ f3_ f4_ f5_ f6_; intro g_v w1 hg_v HS; refine hK _ _ ?_; clear hK K) | (go_at_call 111; refine (HC.out g_v _ (HS.out.oldC HR.out) (HS.out.oldC HR2.out) (HS.out.at (i := 0) rfl)).mono ?_; rintro e_ w1 ⟨rfl, hb⟩; replace HS := sB HS hb; clear hb) | ((with_reducible refine gate_store (t := 24) (p := 4) rfl ?_); refine stL HS 1 0 #[(.int .i64 0), (.int .i64 0), (.slice none 0 0)] rfl rfl rfl rfl rfl ?_; clear HS; intro w1 HS))
    refine bodyPost_ret (results_cell_tmp_row rfl _ _ g_r 24 #[(.int .i64 0), (.int .i64 0), (.slice none 0 0)] (0, 0) _ rfl (HS.out.at (i := 1) rfl) Try.underlying24 rfl (by kernel_rfl)) rfl ?_
    exact ⟨none, 0, rfl, nilS (HS.out.sel [] (by decide))⟩
set_option maxHeartbeats 8000000 in
theorem implShuffleSeries (d n : Int) (A : Option Addr) (c : Nat) (l : Ts) (d2 n2 : Int) (A2 : Option Addr) (cc : Nat) (l2 : Ts) (w : World) (hr : KT.C w A l.length l) (hc : l.length ≤ c) (hb : bnd l = true) (hr2 : KT.C w A2 l2.length l2) (hcc : l2.length ≤ cc) (hb2 : bnd l2 = true) :
    Calls Try.prog 29 #[.agg #[.int .i64 d, .int .i64 n, .slice A l.length c], .agg #[.int .i64 d2, .int .i64 n2, .slice A2 l2.length cc]] w (RetS w (twoR shF d n l d2 n2 l2)) := by
  have HR := Aside0.mk hr
  have HB := Aside0.mk hb
  have HR2 := Aside0.mk hr2
  have HB2 := Aside0.mk hb2
  have HS := Aside0.mk (Sep.refl w)
  clear hr hb hr2 hb2
  have HC := Aside0.mk (fun W k1 k2 => implCode d n A c l d2 n2 A2 cc l2 W k1 hc HB.out k2 hcc HB2.out)
  unfold twoR
  obtain ⟨k, hk⟩ : ∃ k, k = codeR d n l d2 n2 l2 := ⟨_, rfl⟩
  rw [← hk] at HC
  rw [← hk]
  by_cases h0 : k = 0
  · subst h0
    obtain ⟨h1, h2, h3, h4⟩ := codeR_zero hk.symm
    subst h3 h4
    clear hk
    have HX := Aside0.mk (isS_t h1)
    have HY := Aside0.mk (isS_t h2)
    have hlev := isS_l h1
    obtain ⟨d, n, rfl, rfl, hd1, hd3, hn1, hn5⟩ := lev_nat hlev
    have HL := Aside0.mk hlev
    clear h1 h2 hlev
    rw [Int.toNat_natCast, Int.toNat_natCast] at HX HY
    rw [Int.toNat_natCast, Int.toNat_natCast]
    rw [if_pos rfl]
    go_enter Try.func29, Try.ntmps29
    go_wp2_with (first | ((with_reducible refine gate_dst (N := 2) rfl ?_); refine bxL 24 #[.int .i64 (d : Int), .int .i64 (n : Int), .slice A l.length c] HS ?_; clear HS; intro g_p w1 hg_p HS) | ((with_reducible refine gate_dst (N := 3) rfl ?_); refine bxL 24 #[.int .i64 (d : Int), .int .i64 (n : Int), .slice A2 l2.length cc] HS ?_; clear HS; intro g_a w1 hg_a HS) | ((with_reducible refine gate_dst (N := 4) rfl ?_); refine bxL 24 #[(.int .i64 0), (.int .i64 0), (.slice none 0 0)] HS ?_; clear HS; intro g_r w1 hg_r HS; have f1_ := HS.out.c 2 0 (v := .int .i64 (d : Int)) rfl rfl; have f2_ := HS.out.c 2 1 (v := .int .i64 (n : Int)) rfl rfl; have f3_ := HS.out.c 2 2 (v := .slice A l.length c) rfl rfl; have f4_ := HS.out.c 1 0 (v := .int .i64 (d : Int)) rfl rfl; have f5_ := HS.out.c 1 1 (v := .int .i64 (n : Int)) rfl rfl; have f6_ := HS.out.c 1 2 (v := .slice A2 l2.length cc) rfl rfl) | (go_at_call 113; refine (HC.out _ (HS.out.oldC HR.out) (HS.out.oldC HR2.out)).mono ?_; rintro e_ w1 ⟨rfl, hb⟩; replace HS := sB HS hb; clear hb f1_ f2_ f3_ f4_ f5_ f6_; have f1_ := HS.out.c 2 0 (v := .int .i64 (d : Int)) rfl rfl; have f2_ := HS.out.c 2 1 (v := .int .i64 (n : Int)) rfl rfl; have f3_ := HS.out.c 2 2 (v := .slice A l.length c) rfl rfl; have f4_ := HS.out.c 1 0 (v := .int .i64 (d : Int)) rfl rfl; have f5_ := HS.out.c 1 1 (v := .int .i64 (n : Int)) rfl rfl; have f6_ := HS.out.c 1 2 (v := .slice A2 l2.length cc) rfl rfl) | (go_at_call 87; refine (implShuffledF d n HL.out A c l A2 cc l2 _ (HS.out.oldC HR.out) (HS.out.oldC HR2.out) HX.out HY.out).mono ?_; rintro e_ w1 ⟨g3, v3, F3, rfl, hF, hQ, hs⟩; replace HS := sN2 HS hs; clear hs f1_ f2_ f3_ f4_ f5_ f6_; have HF3 := Aside0.mk hF; have HQ3 : Aside0 (Rel d n (shF d n l l2) F3) := Aside0.mk hQ; clear hF hQ) | (go_at_call 89; refine (tabTold HL.out ⟨HF3.out, HQ3.out, HS.out.at (i := 0) rfl, HS.out.at (i := 1) rfl⟩).mono ?_; rintro e_ w1 ⟨B, b, rfl, hs⟩; replace HS := sN1 HS hs; clear hs) | ((with_reducible refine gate_store (t := 24) (p := 4) rfl ?_); refine stL HS 3 0 #[.int .i64 (resO d n (shF d n l l2)).1, .int .i64 (resO d n (shF d n l l2)).2.1, .slice B (resO d n (shF d n l l2)).2.2.1.length b] rfl rfl rfl rfl rfl ?_; clear HS; intro w1 HS))
    refine bodyPost_ret (results_cell_tmp_row rfl _ _ g_r 24 #[.int .i64 (resO d n (shF d n l l2)).1, .int .i64 (resO d n (shF d n l l2)).2.1, .slice B (resO d n (shF d n l l2)).2.2.1.length b] (0, 0) _ rfl (HS.out.at (i := 3) rfl) Try.underlying24 rfl (by kernel_rfl)) rfl ?_
    exact ⟨B, b, rfl, HS.out.sel [0] (by decide)⟩
  · have hkb : (k != 0) = true := by simpa using h0
    rw [if_neg h0]
    clear hk h0
    go_enter Try.func29, Try.ntmps29
    go_wp2_with (first | ((with_reducible refine gate_dst (N := 2) rfl ?_); refine bxL 24 #[.int .i64 d, .int .i64 n, .slice A l.length c] HS ?_; clear HS; intro g_p w1 hg_p HS) | ((with_reducible refine gate_dst (N := 3) rfl ?_); refine bxL 24 #[.int .i64 d2, .int .i64 n2, .slice A2 l2.length cc] HS ?_; clear HS; intro g_a w1 hg_a HS) | ((with_reducible refine gate_dst (N := 4) rfl ?_); refine bxL 24 #[(.int .i64 0), (.int .i64 0), (.slice none 0 0)] HS ?_; clear HS; intro g_r w1 hg_r HS; have f1_ := HS.out.c 2 0 (v := .int .i64 d) rfl rfl; have f2_ := HS.out.c 2 1 (v := .int .i64 n) rfl rfl; have f3_ := HS.out.c 2 2 (v := .slice A l.length c) rfl rfl; have f4_ := HS.out.c 1 0 (v := .int .i64 d2) rfl rfl; have f5_ := HS.out.c 1 1 (v := .int .i64 n2) rfl rfl; have f6_ := HS.out.c 1 2 (v := .slice A2 l2.length cc) rfl rfl) | (go_at_call 113; refine (HC.out _ (HS.out.oldC HR.out) (HS.out.oldC HR2.out)).mono ?_; rintro e_ w1 ⟨rfl, hb⟩; replace HS := sB HS hb; clear hb f1_ f2_ f3_ f4_ f5_ f6_) | ((with_reducible refine gate_store (t := 24) (p := 4) rfl ?_); refine stL HS 0 0 #[(.int .i64 0), (.int .i64 0), (.slice none 0 0)] rfl rfl rfl rfl rfl ?_; clear HS; intro w1 HS))
    refine bodyPost_ret (results_cell_tmp_row rfl _ _ g_r 24 #[(.int .i64 0), (.int .i64 0), (.slice none 0 0)] (0, 0) _ rfl (HS.out.at (i := 0) rfl) Try.underlying24 rfl (by kernel_rfl)) rfl ?_
    exact ⟨none, 0, rfl, nilS (HS.out.sel [] (by decide))⟩
end Go.Proofs.Ytaheikponfmdiaa.H


