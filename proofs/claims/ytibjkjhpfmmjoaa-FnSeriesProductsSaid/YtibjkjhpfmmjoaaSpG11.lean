/- Plain facts and contracts of functions that the law's walk uses. Conditions: those that stand in each statement. -/
import Derived.Test.YtibjkjhpfmmjoaaSpG10
import Derived.Test.YtibjkjhpfmmjoaaSpG7
import Derived.Deep.Cut
import Derived.Test.YtibjkjhpfmmjoaaSpG8
import Derived.Test.YtibjkjhpfmmjoaaSpG9
import Derived.Test.YtibjkjhpfmmjoaaSpG2
namespace Go.Proofs.Ytibjkjhpfmmjoaa.H
open Go.RowKit Go.Proofs.YtibjkjhpfmmjoaaW.PrintWords Go.Proofs.YtibjkjhpfmmjoaaW.PrintLast Go.Proofs.YtibjkjhpfmmjoaaW.PrintMore Go.Proofs.Ytibjkjhpfmmjoaa.M
attribute [local go_sem] max2_int min2_int max_two min_two max_three min_three max_four min_four resQ
set_option linter.unusedVariables false
set_option linter.unusedSimpArgs false
set_option maxRecDepth 100000
set_option maxHeartbeats 8000000 in
theorem specCommutatorOf (d n : Int) (A : Option Addr) (c : Nat) (l : Ts) (d2 n2 : Int) (A2 : Option Addr) (cc : Nat) (l2 : Ts) (w : World) (hr : KT.C w A l.length l) (hc : l.length ≤ c) (hb : bnd l = true) (hr2 : KT.C w A2 l2.length l2) (hcc : l2.length ≤ cc) (hb2 : bnd l2 = true) :
    Calls Try.prog 23 #[.agg #[.int .i64 d, .int .i64 n, .slice A l.length c], .agg #[.int .i64 d2, .int .i64 n2, .slice A2 l2.length cc]] w (RetS w (twoR comS d n l d2 n2 l2)) := by
  have HR := Aside0.mk hr
  have HB := Aside0.mk hb
  have HR2 := Aside0.mk hr2
  have HB2 := Aside0.mk hb2
  have HS := Aside0.mk (Sep.refl w)
  clear hr hb hr2 hb2
  have HC := Aside0.mk (fun q W k1 k2 k3 => specCode d n A c l d2 n2 A2 cc l2 q W k1 hc HB.out k2 hcc HB2.out k3)
  unfold twoR
  obtain ⟨k, hk⟩ : ∃ k, k = codeR d n l d2 n2 l2 := ⟨_, rfl⟩
  rw [← hk] at HC
  rw [← hk]
  by_cases h0 : k = 0
  · subst h0
    obtain ⟨h1, h2, h3, h4⟩ := codeR_zero hk.symm
    subst h3 h4
    clear hk
    obtain ⟨d, n, rfl, rfl, hd1, hd3, hn1, hn5⟩ := lev_nat (isS_l h1)
    have HP := Aside0.mk (fun W k1 k2 => specComQ d n hd3 hn5 A c l A2 cc l2 W k1 hc k2 hcc (isS_t h1) (isS_t h2))
    rw [Int.toNat_natCast, Int.toNat_natCast]
    clear h1 h2
    rw [if_pos rfl]
    obtain ⟨o, ho⟩ : ∃ o, o = comS d n l l2 := ⟨_, rfl⟩
    rw [← ho] at HP
    rw [← ho]
    clear ho
    cases o with
    | none =>
      go_enter Try.func23, Try.ntmps23
      go_wp2_with (first | ((with_reducible refine gate_dst (N := 2) rfl ?_); refine bxL 26 #[.int .i64 (d : Int), .int .i64 (n : Int), .slice A l.length c] HS ?_; clear HS; intro g_p w1 hg_p HS) | ((with_reducible refine gate_dst (N := 3) rfl ?_); refine bxL 26 #[.int .i64 (d : Int), .int .i64 (n : Int), .slice A2 l2.length cc] HS ?_; clear HS; intro g_a w1 hg_a HS) | ((with_reducible refine gate_dst (N := 4) rfl ?_); refine bxL 26 #[(.int .i64 0), (.int .i64 0), (.slice none 0 0)] HS ?_; clear HS; intro g_r w1 hg_r HS; have f1_ := HS.out.c 2 0 (v := .int .i64 (d : Int)) rfl rfl; have f2_ := HS.out.c 2 1 (v := .int .i64 (n : Int)) rfl rfl; have f3_ := HS.out.c 2 2 (v := .slice A l.length c) rfl rfl; have f4_ := HS.out.c 1 0 (v := .int .i64 (d : Int)) rfl rfl; have f5_ := HS.out.c 1 1 (v := .int .i64 (n : Int)) rfl rfl; have f6_ := HS.out.c 1 2 (v := .slice A2 l2.length cc) rfl rfl) | ((with_reducible refine gate_dst (N := 11) rfl ?_); refine wpList_stp (fun K hK => ?_); refine stp_bs (by rfl) HS (cs := #[.int .i64 (d : Int), .int .i64 (n : Int), .slice A2 l2.length cc]) (t := 26) (m := 1) (by first | (go_simp; done) | (go_simp; rfl)) ?_; clear HS f1_ f2_ f3_ f4_ f5_ f6_; intro g_v w1 hg_v HS; refine hK _ _ ?_; clear hK K) | (go_at_call 70; refine (HC.out g_v _ (HS.out.oldC HR.out) (HS.out.oldC HR2.out) (HS.out.at (i := 0) rfl)).mono ?_; rintro e_ w1 ⟨rfl, hb⟩; replace HS := sB HS hb; clear hb; have f1_ := HS.out.c 3 0 (v := .int .i64 (d : Int)) rfl rfl; have f2_ := HS.out.c 3 1 (v := .int .i64 (n : Int)) rfl rfl; have f3_ := HS.out.c 3 2 (v := .slice A l.length c) rfl rfl; have f4_ := HS.out.c 2 0 (v := .int .i64 (d : Int)) rfl rfl; have f5_ := HS.out.c 2 1 (v := .int .i64 (n : Int)) rfl rfl; have f6_ := HS.out.c 2 2 (v := .slice A2 l2.length cc) rfl rfl) | (go_at_call 73; refine (HP.out _ (HS.out.oldC HR.out) (HS.out.oldC HR2.out)).mono ?_; rintro e_ w1 ⟨B, b, rfl, hs⟩; replace HS := sN1 HS hs; clear hs f1_ f2_ f3_ f4_ f5_ f6_) | ((with_reducible refine gate_dst (N := 7) rfl ?_); refine bxL 26 #[(.int .i64 0), (.int .i64 0), (.slice none 0 0)] HS ?_; clear HS; intro g_q w1 hg_q HS) | ((with_reducible refine gate_store (t := 26) (p := 7) rfl ?_); refine stL HS 0 0 #[.int .i64 0, .int .i64 0, .slice B ([] : Ts).length b] rfl rfl rfl rfl rfl ?_; clear HS; intro w1 HS) | ((with_reducible refine gate_store (t := 26) (p := 4) rfl ?_); refine stL HS 3 0 #[(.int .i64 0), (.int .i64 0), (.slice none 0 0)] rfl rfl rfl rfl rfl ?_; clear HS; intro w1 HS))
      refine bodyPost_ret (results_cell_tmp_row rfl _ _ g_r 26 #[(.int .i64 0), (.int .i64 0), (.slice none 0 0)] (0, 0) _ rfl (HS.out.at (i := 3) rfl) Try.underlying26 rfl (by kernel_rfl)) rfl ?_
      exact ⟨none, 0, rfl, nilS (HS.out.sel [] (by decide))⟩
    | some z =>
      go_enter Try.func23, Try.ntmps23
      go_wp2_with (first | ((with_reducible refine gate_dst (N := 2) rfl ?_); refine bxL 26 #[.int .i64 (d : Int), .int .i64 (n : Int), .slice A l.length c] HS ?_; clear HS; intro g_p w1 hg_p HS) | ((with_reducible refine gate_dst (N := 3) rfl ?_); refine bxL 26 #[.int .i64 (d : Int), .int .i64 (n : Int), .slice A2 l2.length cc] HS ?_; clear HS; intro g_a w1 hg_a HS) | ((with_reducible refine gate_dst (N := 4) rfl ?_); refine bxL 26 #[(.int .i64 0), (.int .i64 0), (.slice none 0 0)] HS ?_; clear HS; intro g_r w1 hg_r HS; have f1_ := HS.out.c 2 0 (v := .int .i64 (d : Int)) rfl rfl; have f2_ := HS.out.c 2 1 (v := .int .i64 (n : Int)) rfl rfl; have f3_ := HS.out.c 2 2 (v := .slice A l.length c) rfl rfl; have f4_ := HS.out.c 1 0 (v := .int .i64 (d : Int)) rfl rfl; have f5_ := HS.out.c 1 1 (v := .int .i64 (n : Int)) rfl rfl; have f6_ := HS.out.c 1 2 (v := .slice A2 l2.length cc) rfl rfl) | ((with_reducible refine gate_dst (N := 11) rfl ?_); refine wpList_stp (fun K hK => ?_); refine stp_bs (by rfl) HS (cs := #[.int .i64 (d : Int), .int .i64 (n : Int), .slice A2 l2.length cc]) (t := 26) (m := 1) (by first | (go_simp; done) | (go_simp; rfl)) ?_; clear HS f1_ f2_ f3_ f4_ f5_ f6_; intro g_v w1 hg_v HS; refine hK _ _ ?_; clear hK K) | (go_at_call 70; refine (HC.out g_v _ (HS.out.oldC HR.out) (HS.out.oldC HR2.out) (HS.out.at (i := 0) rfl)).mono ?_; rintro e_ w1 ⟨rfl, hb⟩; replace HS := sB HS hb; clear hb; have f1_ := HS.out.c 3 0 (v := .int .i64 (d : Int)) rfl rfl; have f2_ := HS.out.c 3 1 (v := .int .i64 (n : Int)) rfl rfl; have f3_ := HS.out.c 3 2 (v := .slice A l.length c) rfl rfl; have f4_ := HS.out.c 2 0 (v := .int .i64 (d : Int)) rfl rfl; have f5_ := HS.out.c 2 1 (v := .int .i64 (n : Int)) rfl rfl; have f6_ := HS.out.c 2 2 (v := .slice A2 l2.length cc) rfl rfl) | (go_at_call 73; refine (HP.out _ (HS.out.oldC HR.out) (HS.out.oldC HR2.out)).mono ?_; rintro e_ w1 ⟨B, b, rfl, hs⟩; replace HS := sN1 HS hs; clear hs f1_ f2_ f3_ f4_ f5_ f6_) | ((with_reducible refine gate_dst (N := 7) rfl ?_); refine bxL 26 #[(.int .i64 0), (.int .i64 0), (.slice none 0 0)] HS ?_; clear HS; intro g_q w1 hg_q HS) | ((with_reducible refine gate_store (t := 26) (p := 7) rfl ?_); refine stL HS 0 0 #[.int .i64 (d : Int), .int .i64 (n : Int), .slice B z.length b] rfl rfl rfl rfl rfl ?_; clear HS; intro w1 HS; have f1_ := HS.out.c 0 0 (v := .int .i64 (d : Int)) rfl rfl; have f2_ := HS.out.c 0 1 (v := .int .i64 (n : Int)) rfl rfl; have f3_ := HS.out.c 0 2 (v := .slice B z.length b) rfl rfl) | ((with_reducible refine gate_store (t := 26) (p := 4) rfl ?_); refine stL HS 3 0 #[.int .i64 (d : Int), .int .i64 (n : Int), .slice B z.length b] rfl rfl rfl rfl rfl ?_; clear HS f1_ f2_ f3_; intro w1 HS))
      refine bodyPost_ret (results_cell_tmp_row rfl _ _ g_r 26 #[.int .i64 (d : Int), .int .i64 (n : Int), .slice B z.length b] (0, 0) _ rfl (HS.out.at (i := 3) rfl) Try.underlying26 rfl (by kernel_rfl)) rfl ?_
      exact ⟨B, b, rfl, HS.out.sel [1] (by decide)⟩
  · have hkb : (k != 0) = true := by simpa using h0
    rw [if_neg h0]
    clear hk h0
    go_enter Try.func23, Try.ntmps23
    go_wp2_with (first | ((with_reducible refine gate_dst (N := 2) rfl ?_); refine bxL 26 #[.int .i64 d, .int .i64 n, .slice A l.length c] HS ?_; clear HS; intro g_p w1 hg_p HS) | ((with_reducible refine gate_dst (N := 3) rfl ?_); refine bxL 26 #[.int .i64 d2, .int .i64 n2, .slice A2 l2.length cc] HS ?_; clear HS; intro g_a w1 hg_a HS) | ((with_reducible refine gate_dst (N := 4) rfl ?_); refine bxL 26 #[(.int .i64 0), (.int .i64 0), (.slice none 0 0)] HS ?_; clear HS; intro g_r w1 hg_r HS; have f1_ := HS.out.c 2 0 (v := .int .i64 d) rfl rfl; have f2_ := HS.out.c 2 1 (v := .int .i64 n) rfl rfl; have f3_ := HS.out.c 2 2 (v := .slice A l.length c) rfl rfl; have f4_ := HS.out.c 1 0 (v := .int .i64 d2) rfl rfl; have f5_ := HS.out.c 1 1 (v := .int .i64 n2) rfl rfl; have f6_ := HS.out.c 1 2 (v := .slice A2 l2.length cc) rfl rfl) | ((with_reducible refine gate_dst (N := 11) rfl ?_); refine wpList_stp (fun K hK => ?_); refine stp_bs (by rfl) HS (cs := #[.int .i64 d2, .int .i64 n2, .slice A2 l2.length cc]) (t := 26) (m := 1) (by first | (go_simp; done) | (go_simp; rfl)) ?_; clear HS f1_ f2_ f3_ f4_ f5_ f6_; intro g_v w1 hg_v HS; refine hK _ _ ?_; clear hK K) | (go_at_call 70; refine (HC.out g_v _ (HS.out.oldC HR.out) (HS.out.oldC HR2.out) (HS.out.at (i := 0) rfl)).mono ?_; rintro e_ w1 ⟨rfl, hb⟩; replace HS := sB HS hb; clear hb) | ((with_reducible refine gate_store (t := 26) (p := 4) rfl ?_); refine stL HS 1 0 #[(.int .i64 0), (.int .i64 0), (.slice none 0 0)] rfl rfl rfl rfl rfl ?_; clear HS; intro w1 HS))
    refine bodyPost_ret (results_cell_tmp_row rfl _ _ g_r 26 #[(.int .i64 0), (.int .i64 0), (.slice none 0 0)] (0, 0) _ rfl (HS.out.at (i := 1) rfl) Try.underlying26 rfl (by kernel_rfl)) rfl ?_
    exact ⟨none, 0, rfl, nilS (HS.out.sel [] (by decide))⟩
set_option maxHeartbeats 8000000 in
theorem implCommutatorOf (d n : Int) (A : Option Addr) (c : Nat) (l : Ts) (d2 n2 : Int) (A2 : Option Addr) (cc : Nat) (l2 : Ts) (w : World) (hr : KT.C w A l.length l) (hc : l.length ≤ c) (hb : bnd l = true) (hr2 : KT.C w A2 l2.length l2) (hcc : l2.length ≤ cc) (hb2 : bnd l2 = true) :
    Calls Try.prog 22 #[.agg #[.int .i64 d, .int .i64 n, .slice A l.length c], .agg #[.int .i64 d2, .int .i64 n2, .slice A2 l2.length cc]] w (RetS w (twoR comS d n l d2 n2 l2)) := by
  have HR := Aside0.mk hr
  have HB := Aside0.mk hb
  have HR2 := Aside0.mk hr2
  have HB2 := Aside0.mk hb2
  have HS := Aside0.mk (Sep.refl w)
  clear hr hb hr2 hb2
  have HC := Aside0.mk (fun W k1 k2 => implCode d n A c l d2 n2 A2 cc l2 W k1 hc HB.out k2 hcc HB2.out)
  unfold twoR
  obtain ⟨k, hk⟩ : ∃ k, k = codeR d n l d2 n2 l2 := ⟨_, rfl⟩
  rw [← hk] at HC
  rw [← hk]
  by_cases h0 : k = 0
  · subst h0
    obtain ⟨h1, h2, h3, h4⟩ := codeR_zero hk.symm
    subst h3 h4
    clear hk
    have HX := Aside0.mk (isS_t h1)
    have HY := Aside0.mk (isS_t h2)
    have hlev := isS_l h1
    obtain ⟨d, n, rfl, rfl, hd1, hd3, hn1, hn5⟩ := lev_nat hlev
    have HL := Aside0.mk hlev
    clear h1 h2 hlev
    rw [Int.toNat_natCast, Int.toNat_natCast] at HX HY
    rw [Int.toNat_natCast, Int.toNat_natCast]
    rw [if_pos rfl]
    go_enter Try.func22, Try.ntmps22
    go_wp2_with (first | ((with_reducible refine gate_dst (N := 2) rfl ?_); refine bxL 26 #[.int .i64 (d : Int), .int .i64 (n : Int), .slice A l.length c] HS ?_; clear HS; intro g_p w1 hg_p HS) | ((with_reducible refine gate_dst (N := 3) rfl ?_); refine bxL 26 #[.int .i64 (d : Int), .int .i64 (n : Int), .slice A2 l2.length cc] HS ?_; clear HS; intro g_a w1 hg_a HS) | ((with_reducible refine gate_dst (N := 4) rfl ?_); refine bxL 26 #[(.int .i64 0), (.int .i64 0), (.slice none 0 0)] HS ?_; clear HS; intro g_r w1 hg_r HS; have f1_ := HS.out.c 2 0 (v := .int .i64 (d : Int)) rfl rfl; have f2_ := HS.out.c 2 1 (v := .int .i64 (n : Int)) rfl rfl; have f3_ := HS.out.c 2 2 (v := .slice A l.length c) rfl rfl; have f4_ := HS.out.c 1 0 (v := .int .i64 (d : Int)) rfl rfl; have f5_ := HS.out.c 1 1 (v := .int .i64 (n : Int)) rfl rfl; have f6_ := HS.out.c 1 2 (v := .slice A2 l2.length cc) rfl rfl) | (go_at_call 67; refine (HC.out _ (HS.out.oldC HR.out) (HS.out.oldC HR2.out)).mono ?_; rintro e_ w1 ⟨rfl, hb⟩; replace HS := sB HS hb; clear hb f1_ f2_ f3_ f4_ f5_ f6_))
    replace HS := sD HS
    refine ps (.t 0 (.t 2 (.e 1 (.d 3 (.d 4 (.d 5 (.p 6 (.p 7 (.d 8 (.p 9 .done)))))))))) (fun w' => w'.cell? ⟨g_p, 0, none⟩ = some (.int .i64 (d : Int)) ∧ w'.cell? ⟨g_p, 1, none⟩ = some (.int .i64 (n : Int)) ∧ w'.cell? ⟨g_p, 2, none⟩ = some (.slice A l.length c) ∧ w'.cell? ⟨g_a, 0, none⟩ = some (.int .i64 (d : Int)) ∧ w'.cell? ⟨g_a, 1, none⟩ = some (.int .i64 (n : Int)) ∧ w'.cell? ⟨g_a, 2, none⟩ = some (.slice A2 l2.length cc)) [3, 4, 5, 8] ⟨HS.out.c 2 0 (v := .int .i64 (d : Int)) rfl rfl, HS.out.c 2 1 (v := .int .i64 (n : Int)) rfl rfl, HS.out.c 2 2 (v := .slice A l.length c) rfl rfl, HS.out.c 1 0 (v := .int .i64 (d : Int)) rfl rfl, HS.out.c 1 1 (v := .int .i64 (n : Int)) rfl rfl, HS.out.c 1 2 (v := .slice A2 l2.length cc) rfl rfl⟩ (fun hHeld => ?_)
    repeat (first | ((with_reducible refine gate_p ?_); refine rp rfl rfl ?_) | ((with_reducible refine gate_t ?_); refine rt rfl rfl hHeld ?_))
    refine run_e rfl (fun K hK => ?_)
    refine gc Try.func64 (tabOpen A c l _ HL.out (HS.out.oldC HR.out) HX.out) rfl rfl ?_
    rintro e_ w1 ⟨g, v, F, rfl, hF, hQ, hs⟩
    refine ⟨_, rfl, ?_⟩
    replace HS := sN2 HS hs
    clear hs
    have HF1 := Aside0.mk hF; have HQ1 := Aside0.mk hQ; clear hF hQ
    refine ge hK ⟨HS.out.c 4 0 (v := .int .i64 (d : Int)) rfl rfl, HS.out.c 4 1 (v := .int .i64 (n : Int)) rfl rfl, HS.out.c 4 2 (v := .slice A l.length c) rfl rfl, HS.out.c 3 0 (v := .int .i64 (d : Int)) rfl rfl, HS.out.c 3 1 (v := .int .i64 (n : Int)) rfl rfl, HS.out.c 3 2 (v := .slice A2 l2.length cc) rfl rfl⟩ (fun hHeld => ?_)
    clear hK K
    refine run_d rfl (fun K hK => ?_)
    refine gc Try.func64 (tabOpen A2 cc l2 _ HL.out (HS.out.oldC HR2.out) HY.out) rfl rfl ?_
    rintro e_ w1 ⟨g2, v2, F2, rfl, hF, hQ, hs⟩
    refine ⟨_, rfl, ?_⟩
    replace HS := sN2 HS hs
    clear hs
    have HF2 := Aside0.mk hF; have HQ2 := Aside0.mk hQ; clear hF hQ
    refine gd hK ?_
    clear hK K
    refine run_d rfl (fun K hK => ?_)
    refine gc Try.func72 (tabCom HL.out ⟨HF1.out, HQ1.out, HS.out.at (i := 2) rfl, HS.out.at (i := 3) rfl⟩ ⟨HF2.out, HQ2.out, HS.out.at (i := 0) rfl, HS.out.at (i := 1) rfl⟩) rfl rfl ?_
    rintro e_ w1 ⟨g3, v3, F3, rfl, hF, hQ, hs⟩
    refine ⟨_, rfl, ?_⟩
    replace HS := sN2 HS hs
    clear hs
    have HF3 := Aside0.mk hF; have HQ3 := Aside0.mk hQ; clear hF hQ
    refine gd hK ?_
    clear hK K
    refine run_d rfl (fun K hK => ?_)
    refine gc Try.func69 (tabTold HL.out ⟨HF3.out, HQ3.out, HS.out.at (i := 0) rfl, HS.out.at (i := 1) rfl⟩) rfl rfl ?_
    rintro e_ w1 ⟨B, b, rfl, hs⟩
    refine ⟨_, rfl, ?_⟩
    replace HS := sN1 HS hs
    clear hs
    refine gd hK ?_
    clear hK K
    repeat (first | ((with_reducible refine gate_p ?_); refine rp rfl rfl ?_) | ((with_reducible refine gate_t ?_); refine rt rfl rfl hHeld ?_))
    refine run_d rfl (fun K hK => ?_)
    refine st1 HS 7 0 #[.int .i64 (resO d n (comS d n l l2)).1, .int .i64 (resO d n (comS d n l l2)).2.1, .slice B (resO d n (comS d n l l2)).2.2.1.length b] rfl rfl rfl rfl rfl ?_
    clear HS
    intro w1 HS
    refine goD hK rfl ?_
    clear hK K
    repeat (first | ((with_reducible refine gate_p ?_); refine rp rfl rfl ?_) | ((with_reducible refine gate_t ?_); refine rt rfl rfl hHeld ?_))
    refine run_done ?_
    clear hHeld
    go_wp2
    refine bodyPost_ret (results_cell_tmp_row rfl _ _ g_r 26 #[.int .i64 (resO d n (comS d n l l2)).1, .int .i64 (resO d n (comS d n l l2)).2.1, .slice B (resO d n (comS d n l l2)).2.2.1.length b] (0, 0) _ rfl (HS.out.at (i := 7) rfl) Try.underlying26 rfl (by kernel_rfl)) rfl ?_
    exact ⟨B, b, rfl, HS.out.sel [0] (by decide)⟩
  · have hkb : (k != 0) = true := by simpa using h0
    rw [if_neg h0]
    clear hk h0
    go_enter Try.func22, Try.ntmps22
    go_wp2_with (first | ((with_reducible refine gate_dst (N := 2) rfl ?_); refine bxL 26 #[.int .i64 d, .int .i64 n, .slice A l.length c] HS ?_; clear HS; intro g_p w1 hg_p HS) | ((with_reducible refine gate_dst (N := 3) rfl ?_); refine bxL 26 #[.int .i64 d2, .int .i64 n2, .slice A2 l2.length cc] HS ?_; clear HS; intro g_a w1 hg_a HS) | ((with_reducible refine gate_dst (N := 4) rfl ?_); refine bxL 26 #[(.int .i64 0), (.int .i64 0), (.slice none 0 0)] HS ?_; clear HS; intro g_r w1 hg_r HS; have f1_ := HS.out.c 2 0 (v := .int .i64 d) rfl rfl; have f2_ := HS.out.c 2 1 (v := .int .i64 n) rfl rfl; have f3_ := HS.out.c 2 2 (v := .slice A l.length c) rfl rfl; have f4_ := HS.out.c 1 0 (v := .int .i64 d2) rfl rfl; have f5_ := HS.out.c 1 1 (v := .int .i64 n2) rfl rfl; have f6_ := HS.out.c 1 2 (v := .slice A2 l2.length cc) rfl rfl) | (go_at_call 67; refine (HC.out _ (HS.out.oldC HR.out) (HS.out.oldC HR2.out)).mono ?_; rintro e_ w1 ⟨rfl, hb⟩; replace HS := sB HS hb; clear hb f1_ f2_ f3_ f4_ f5_ f6_) | ((with_reducible refine gate_store (t := 26) (p := 4) rfl ?_); refine stL HS 0 0 #[(.int .i64 0), (.int .i64 0), (.slice none 0 0)] rfl rfl rfl rfl rfl ?_; clear HS; intro w1 HS))
    refine bodyPost_ret (results_cell_tmp_row rfl _ _ g_r 26 #[(.int .i64 0), (.int .i64 0), (.slice none 0 0)] (0, 0) _ rfl (HS.out.at (i := 0) rfl) Try.underlying26 rfl (by kernel_rfl)) rfl ?_
    exact ⟨none, 0, rfl, nilS (HS.out.sel [] (by decide))⟩
end Go.Proofs.Ytibjkjhpfmmjoaa.H



namespace Go.Proofs.Ytibjkjhpfmmjoaa.M
def constR (d n : Int) (l : Ts) : Rf := coefR d n l eps
theorem constR_yes {d n : Int} {l : Ts} (h : isS d n l = true) : constR d n l = ((co l eps).1, (co l eps).2, 0) := by
  have := (lev_iff.1 (isS_l h)).2.1
  unfold constR coefR
  rw [if_pos h, if_pos ⟨by show (0 : Int) ≤ n; omega, by rfl⟩]
theorem constR_no {d n : Int} {l : Ts} (h : isS d n l = false) : constR d n l = (0, 0, 1) := by
  unfold constR coefR
  rw [if_neg (by rw [h]; decide)]
end Go.Proofs.Ytibjkjhpfmmjoaa.M
namespace Go.Proofs.Ytibjkjhpfmmjoaa.H
open Go.RowKit Go.Proofs.YtibjkjhpfmmjoaaW.PrintWords Go.Proofs.YtibjkjhpfmmjoaaW.PrintLast Go.Proofs.YtibjkjhpfmmjoaaW.PrintMore Go.Proofs.Ytibjkjhpfmmjoaa.M
attribute [local go_sem] max2_int min2_int max_two min_two max_three min_three max_four min_four
set_option linter.unusedVariables false
set_option linter.unusedSimpArgs false
set_option maxRecDepth 100000
theorem specConstantOf (d n : Int) (A : Option Addr) (c : Nat) (l : Ts) (w : World) (hr : KT.C w A l.length l) (hc : l.length ≤ c) (hb : bnd l = true) :
    Calls Try.prog 31 #[.agg #[.int .i64 d, .int .i64 n, .slice A l.length c]] w (RetF w (constR d n l)) := by
  have HR := Aside0.mk hr
  have HB := Aside0.mk hb
  have HS := Aside0.mk (Sep.refl w)
  clear hr hb
  cases h : isS d n l with
  | false =>
    rw [constR_no h]
    go_enter Try.func31, Try.ntmps31
    go_wp2_with (first | ((with_reducible refine gate_dst (N := 1) rfl ?_); refine bxL 26 #[.int .i64 d, .int .i64 n, .slice A l.length c] HS ?_; clear HS; intro g_x w1 hg_x HS) | ((with_reducible refine gate_dst (N := 2) rfl ?_); refine bxL 34 #[(.int .i64 0), (.int .i64 0)] HS ?_; clear HS; intro g_r w1 hg_r HS; have f1_ := HS.out.c 1 0 (v := .int .i64 d) rfl rfl; have f2_ := HS.out.c 1 1 (v := .int .i64 n) rfl rfl; have f3_ := HS.out.c 1 2 (v := .slice A l.length c) rfl rfl) | (go_at_call 54; refine (specIs d n A c l _ (HS.out.oldC HR.out) hc HB.out).mono ?_; rintro e_ w1 ⟨rfl, hb⟩; replace HS := sB HS hb; clear hb f1_ f2_ f3_) | ((with_reducible refine gate_store (t := 34) (p := 2) rfl ?_); refine stL HS 0 0 #[(.int .i64 0), (.int .i64 0)] rfl rfl rfl rfl rfl ?_; clear HS; intro w1 HS))
    refine bodyPost_ret (results_cell_tmp_row rfl _ _ g_r 34 #[(.int .i64 0), (.int .i64 0)] (0, 0) _ rfl (HS.out.at (i := 0) rfl) Try.underlying34 rfl (by kernel_rfl)) rfl ?_
    exact ⟨rfl, HS.out.below⟩
  | true =>
    rw [constR_yes h]
    go_enter Try.func31, Try.ntmps31
    go_wp2_with (first | ((with_reducible refine gate_dst (N := 1) rfl ?_); refine bxL 26 #[.int .i64 d, .int .i64 n, .slice A l.length c] HS ?_; clear HS; intro g_x w1 hg_x HS) | ((with_reducible refine gate_dst (N := 2) rfl ?_); refine bxL 34 #[(.int .i64 0), (.int .i64 0)] HS ?_; clear HS; intro g_r w1 hg_r HS; have f1_ := HS.out.c 1 0 (v := .int .i64 d) rfl rfl; have f2_ := HS.out.c 1 1 (v := .int .i64 n) rfl rfl; have f3_ := HS.out.c 1 2 (v := .slice A l.length c) rfl rfl) | (go_at_call 54; refine (specIs d n A c l _ (HS.out.oldC HR.out) hc HB.out).mono ?_; rintro e_ w1 ⟨rfl, hb⟩; replace HS := sB HS hb; clear hb f1_ f2_ f3_; have f1_ := HS.out.c 1 0 (v := .int .i64 d) rfl rfl; have f2_ := HS.out.c 1 1 (v := .int .i64 n) rfl rfl; have f3_ := HS.out.c 1 2 (v := .slice A l.length c) rfl rfl) | (go_at_call 82; refine (specConstant d n A c l _ (HS.out.oldC HR.out) hc HB.out).mono ?_; rintro e_ w1 ⟨rfl, hb⟩; replace HS := sB HS hb; clear hb f1_ f2_ f3_) | ((with_reducible refine gate_store (t := 34) (p := 2) rfl ?_); refine stL HS 0 0 #[.int .i64 (co l eps).1, .int .i64 (co l eps).2] rfl rfl rfl rfl rfl ?_; clear HS; intro w1 HS))
    refine bodyPost_ret (results_cell_tmp_row rfl _ _ g_r 34 #[.int .i64 (co l eps).1, .int .i64 (co l eps).2] (0, 0) _ rfl (HS.out.at (i := 0) rfl) Try.underlying34 rfl (by kernel_rfl)) rfl ?_
    exact ⟨rfl, HS.out.below⟩
theorem implConstantOf (d n : Int) (A : Option Addr) (c : Nat) (l : Ts) (w : World) (hr : KT.C w A l.length l) (hc : l.length ≤ c) (hb : bnd l = true) :
    Calls Try.prog 30 #[.agg #[.int .i64 d, .int .i64 n, .slice A l.length c]] w (RetF w (constR d n l)) := by
  have HR := Aside0.mk hr
  have HB := Aside0.mk hb
  have HS := Aside0.mk (Sep.refl w)
  clear hr hb
  go_enter Try.func30, Try.ntmps30
  go_wp2_with (first | ((with_reducible refine gate_dst (N := 1) rfl ?_); refine bxL 26 #[.int .i64 d, .int .i64 n, .slice A l.length c] HS ?_; clear HS; intro g_x w1 hg_x HS) | ((with_reducible refine gate_dst (N := 2) rfl ?_); refine bxL 34 #[(.int .i64 0), (.int .i64 0)] HS ?_; clear HS; intro g_r w1 hg_r HS; have f1_ := HS.out.c 1 0 (v := .int .i64 d) rfl rfl; have f2_ := HS.out.c 1 1 (v := .int .i64 n) rfl rfl; have f3_ := HS.out.c 1 2 (v := .slice A l.length c) rfl rfl) | (go_at_call 16; refine (implCoefficientOf d n A c l eps _ (HS.out.oldC HR.out) hc HB.out (by decide)).mono ?_; rintro e_ w1 ⟨rfl, hb⟩; replace HS := sB HS hb; clear hb f1_ f2_ f3_) | ((with_reducible refine gate_store (t := 34) (p := 2) rfl ?_); refine stL HS 0 0 #[.int .i64 (coefR d n l eps).1, .int .i64 (coefR d n l eps).2.1] rfl rfl rfl rfl rfl ?_; clear HS; intro w1 HS))
  refine bodyPost_ret (results_cell_tmp_row rfl _ _ g_r 34 #[.int .i64 (coefR d n l eps).1, .int .i64 (coefR d n l eps).2.1] (0, 0) _ rfl (HS.out.at (i := 0) rfl) Try.underlying34 rfl (by kernel_rfl)) rfl ?_
  exact ⟨rfl, HS.out.below⟩
end Go.Proofs.Ytibjkjhpfmmjoaa.H



namespace Go.Proofs.Ytibjkjhpfmmjoaa.H
open Go.RowKit Go.Proofs.YtibjkjhpfmmjoaaW.PrintWords Go.Proofs.YtibjkjhpfmmjoaaW.PrintLast Go.Proofs.YtibjkjhpfmmjoaaW.PrintMore Go.Proofs.Ytibjkjhpfmmjoaa.M
set_option linter.unusedVariables false
set_option linter.unusedSimpArgs false
set_option maxRecDepth 100000
set_option maxHeartbeats 64000000 in
theorem lawFnSeriesProducts (A : Option Addr) (c : Nat) (xs : List Int) (w : World) (hr : (Kd.int .u8).C w A xs.length xs) (hxb : ∀ x ∈ xs, 0 ≤ x ∧ x < 256) :
    Calls Try.prog 4 #[.slice A xs.length c] w fun e w' => e = .returned (.bool true) ∧ Below w.heap.size w w' := by
  have HS := Aside0.mk (Sep.refl w)
  have HG := Aside0.mk (fun X => lawBig A c xs.length X)
  by_cases hbig : 4096 < xs.length
  · rw [decide_eq_true hbig] at HG
    clear hr hxb
    go_enter Try.func4, Try.ntmps4
    go_wp2_with (first | (go_at_call 6; refine (HG.out _).mono ?_; rintro e_ w1 ⟨rfl, hb⟩; replace HS := sB HS hb; clear hb))
    go_ret
    exact ⟨rfl, HS.out.below⟩
  · rw [decide_eq_false hbig] at HG
    have HX := Aside0.mk (Bytes.mk hr hxb (by omega))
    clear hr hxb hbig
    go_enter Try.func4, Try.ntmps4
    go_upto_region 4 with (first | (go_at_call 6; refine (HG.out _).mono ?_; rintro e_ w1 ⟨rfl, hb⟩; replace HS := sB HS hb; clear hb) | (go_at_call 20; refine (specDrawMultiplySeries A c xs _ (HX.out.old HS.out)).mono ?_; rintro e_ w1 ⟨dx, nx, Bx, mx, lx, dz, nz, Bz, mz, lz, rfl, hbx, hbz, hokx, hokz, hs⟩; replace HS := sN2 HS hs; clear hs) | ((with_reducible refine gate_dst (N := 3) rfl ?_); refine bxL 26 #[(.int .i64 0), (.int .i64 0), (.slice none 0 0)] HS ?_; clear HS; intro g_x w1 hg_x HS) | ((with_reducible refine gate_dst (N := 4) rfl ?_); refine bxL 26 #[(.int .i64 0), (.int .i64 0), (.slice none 0 0)] HS ?_; clear HS; intro g_y w1 hg_y HS) | ((with_reducible refine gate_store (t := 26) (p := 3) rfl ?_); refine stL HS 1 0 #[.int .i64 dx, .int .i64 nx, .slice Bx lx.length mx] rfl rfl rfl rfl rfl ?_; clear HS; intro w1 HS) | ((with_reducible refine gate_store (t := 26) (p := 4) rfl ?_); refine stL HS 0 0 #[.int .i64 dz, .int .i64 nz, .slice Bz lz.length mz] rfl rfl rfl rfl rfl ?_; clear HS; intro w1 HS))
    have HBX := Aside0.mk hokx.1
    have HBY := Aside0.mk hokz.1
    obtain ⟨md, mn, ml, mc, em⟩ : ∃ (a b : Int) (l : Ts) (c : Int), mulR dx nx lx dz nz lz = (a, b, l, c) := ⟨_, _, _, _, rfl⟩
    have HM := Aside0.mk em
    have hml : ml.length ≤ 1048576 := by have h := (bnd_iff.1 (mulR_bnd dx nx lx dz nz lz)).1; rw [em] at h; exact h
    have hmc : (mc != mc) = false := by simp
    have HBM := Aside0.mk (show bnd ml = true by have h := mulR_bnd dx nx lx dz nz lz; rw [em] at h; exact h)
    clear em
    obtain ⟨qd, qn, ql, qc, eq⟩ : ∃ (a b : Int) (l : Ts) (c : Int), twoR comS dx nx lx dz nz lz = (a, b, l, c) := ⟨_, _, _, _, rfl⟩
    have HQ := Aside0.mk eq
    have hql : ql.length ≤ 1048576 := by have h := two_len (f := comS) (fun d n x y hd _ _ => com_rel hd x y) (d := dx) (n := nx) (l := lx) (d2 := dz) (n2 := nz) (l2 := lz); rw [eq] at h; exact h
    have hqc : (qc != qc) = false := by simp
    clear eq
    have f1_ := HS.out.c 1 0 (v := .int .i64 dx) rfl rfl
    have f2_ := HS.out.c 1 1 (v := .int .i64 nx) rfl rfl
    have f3_ := HS.out.c 1 2 (v := .slice Bx lx.length mx) rfl rfl
    have f4_ := HS.out.c 0 0 (v := .int .i64 dz) rfl rfl
    have f5_ := HS.out.c 0 1 (v := .int .i64 nz) rfl rfl
    have f6_ := HS.out.c 0 2 (v := .slice Bz lz.length mz) rfl rfl
    have tk1_ : True := trivial
    go_upto_region 13 with (first | (go_at_call 18; refine (got (implMultiplySeries dx nx Bx mx lx dz nz Bz mz lz _ (HS.out.reads 2 rfl) (HS.out.cap 2 rfl) HBX.out (HS.out.reads 3 rfl) (HS.out.cap 3 rfl) HBY.out) HM.out).mono ?_; rintro e_ w1 ⟨C1, e1, rfl, hs⟩; replace HS := sN1 HS hs; clear hs f1_ f2_ f3_ f4_ f5_ f6_) | ((with_reducible refine gate_dst (N := 5) rfl ?_); refine bxL 26 #[(.int .i64 0), (.int .i64 0), (.slice none 0 0)] HS ?_; clear HS; intro g_m1 w1 hg_m1 HS) | ((with_reducible refine gate_store (t := 26) (p := 5) rfl ?_); refine stL HS 0 0 #[.int .i64 md, .int .i64 mn, .slice C1 ml.length e1] rfl rfl rfl rfl rfl ?_; clear HS; intro w1 HS; have f1_ := HS.out.c 3 0 (v := .int .i64 dx) rfl rfl; have f2_ := HS.out.c 3 1 (v := .int .i64 nx) rfl rfl; have f3_ := HS.out.c 3 2 (v := .slice Bx lx.length mx) rfl rfl; have f4_ := HS.out.c 2 0 (v := .int .i64 dz) rfl rfl; have f5_ := HS.out.c 2 1 (v := .int .i64 nz) rfl rfl; have f6_ := HS.out.c 2 2 (v := .slice Bz lz.length mz) rfl rfl) | (go_at_call 21; refine (got (specMultiplySeries dx nx Bx mx lx dz nz Bz mz lz _ (HS.out.reads 4 rfl) (HS.out.cap 4 rfl) HBX.out (HS.out.reads 5 rfl) (HS.out.cap 5 rfl) HBY.out) HM.out).mono ?_; rintro e_ w1 ⟨C2, e2, rfl, hs⟩; replace HS := sN1 HS hs; clear hs f1_ f2_ f3_ f4_ f5_ f6_) | ((with_reducible refine gate_dst (N := 7) rfl ?_); refine bxL 26 #[(.int .i64 0), (.int .i64 0), (.slice none 0 0)] HS ?_; clear HS; intro g_m2 w1 hg_m2 HS) | ((with_reducible refine gate_store (t := 26) (p := 7) rfl ?_); refine stL HS 0 0 #[.int .i64 md, .int .i64 mn, .slice C2 ml.length e2] rfl rfl rfl rfl rfl ?_; clear HS; intro w1 HS; have f1_ := HS.out.c 2 0 (v := .int .i64 md) rfl rfl; have f2_ := HS.out.c 2 1 (v := .int .i64 mn) rfl rfl; have f3_ := HS.out.c 2 2 (v := .slice C1 ml.length e1) rfl rfl; have f4_ := HS.out.c 0 0 (v := .int .i64 md) rfl rfl; have f5_ := HS.out.c 0 1 (v := .int .i64 mn) rfl rfl; have f6_ := HS.out.c 0 2 (v := .slice C2 ml.length e2) rfl rfl) | (go_at_call 10; clear tk1_; refine (lawSeries9 md mn C1 C2 e1 e2 ml _ (HS.out.reads 3 rfl) (HS.out.reads 1 rfl) hml).mono ?_; rintro e_ w1 ⟨rfl, hb⟩; replace HS := sB HS hb; clear hb f1_ f2_ f3_ f4_ f5_ f6_; have f1_ := HS.out.c 5 0 (v := .int .i64 dx) rfl rfl; have f2_ := HS.out.c 5 1 (v := .int .i64 nx) rfl rfl; have f3_ := HS.out.c 5 2 (v := .slice Bx lx.length mx) rfl rfl; have f4_ := HS.out.c 4 0 (v := .int .i64 dz) rfl rfl; have f5_ := HS.out.c 4 1 (v := .int .i64 nz) rfl rfl; have f6_ := HS.out.c 4 2 (v := .slice Bz lz.length mz) rfl rfl) | (go_at_call 22; refine (got (implCommutatorOf dx nx Bx mx lx dz nz Bz mz lz _ (HS.out.reads 6 rfl) (HS.out.cap 6 rfl) HBX.out (HS.out.reads 7 rfl) (HS.out.cap 7 rfl) HBY.out) HQ.out).mono ?_; rintro e_ w1 ⟨C3, e3, rfl, hs⟩; replace HS := sN1 HS hs; clear hs f1_ f2_ f3_ f4_ f5_ f6_) | ((with_reducible refine gate_dst (N := 9) rfl ?_); refine bxL 26 #[(.int .i64 0), (.int .i64 0), (.slice none 0 0)] HS ?_; clear HS; intro g_c1 w1 hg_c1 HS) | ((with_reducible refine gate_store (t := 26) (p := 9) rfl ?_); refine stL HS 0 0 #[.int .i64 qd, .int .i64 qn, .slice C3 ql.length e3] rfl rfl rfl rfl rfl ?_; clear HS; intro w1 HS; have f1_ := HS.out.c 7 0 (v := .int .i64 dx) rfl rfl; have f2_ := HS.out.c 7 1 (v := .int .i64 nx) rfl rfl; have f3_ := HS.out.c 7 2 (v := .slice Bx lx.length mx) rfl rfl; have f4_ := HS.out.c 6 0 (v := .int .i64 dz) rfl rfl; have f5_ := HS.out.c 6 1 (v := .int .i64 nz) rfl rfl; have f6_ := HS.out.c 6 2 (v := .slice Bz lz.length mz) rfl rfl) | (go_at_call 23; refine (got (specCommutatorOf dx nx Bx mx lx dz nz Bz mz lz _ (HS.out.reads 8 rfl) (HS.out.cap 8 rfl) HBX.out (HS.out.reads 9 rfl) (HS.out.cap 9 rfl) HBY.out) HQ.out).mono ?_; rintro e_ w1 ⟨C4, e4, rfl, hs⟩; replace HS := sN1 HS hs; clear hs f1_ f2_ f3_ f4_ f5_ f6_) | ((with_reducible refine gate_dst (N := 11) rfl ?_); refine bxL 26 #[(.int .i64 0), (.int .i64 0), (.slice none 0 0)] HS ?_; clear HS; intro g_c2 w1 hg_c2 HS) | ((with_reducible refine gate_store (t := 26) (p := 11) rfl ?_); refine stL HS 0 0 #[.int .i64 qd, .int .i64 qn, .slice C4 ql.length e4] rfl rfl rfl rfl rfl ?_; clear HS; intro w1 HS; have f1_ := HS.out.c 2 0 (v := .int .i64 qd) rfl rfl; have f2_ := HS.out.c 2 1 (v := .int .i64 qn) rfl rfl; have f3_ := HS.out.c 2 2 (v := .slice C3 ql.length e3) rfl rfl; have f4_ := HS.out.c 0 0 (v := .int .i64 qd) rfl rfl; have f5_ := HS.out.c 0 1 (v := .int .i64 qn) rfl rfl; have f6_ := HS.out.c 0 2 (v := .slice C4 ql.length e4) rfl rfl) | (go_at_call 10; refine (lawSeries9 qd qn C3 C4 e3 e4 ql _ (HS.out.reads 3 rfl) (HS.out.reads 1 rfl) hql).mono ?_; rintro e_ w1 ⟨rfl, hb⟩; replace HS := sB HS hb; clear hb f1_ f2_ f3_ f4_ f5_ f6_) | (go_at_call 24; refine (specDrawPowerSeries A c xs _ (HX.out.old HS.out)).mono ?_; rintro e_ w1 ⟨dv, nv, Bv, mv, lv, kv, rfl, hbv, hokv, hkv, hs⟩; replace HS := sN1 HS hs; clear hs) | ((with_reducible refine gate_dst (N := 13) rfl ?_); refine bxL 26 #[(.int .i64 0), (.int .i64 0), (.slice none 0 0)] HS ?_; clear HS; intro g_v w1 hg_v HS) | ((with_reducible refine gate_store (t := 26) (p := 13) rfl ?_); refine stL HS 0 0 #[.int .i64 dv, .int .i64 nv, .slice Bv lv.length mv] rfl rfl rfl rfl rfl ?_; clear HS; intro w1 HS))
    have HBV := Aside0.mk hokv.1
    obtain ⟨pd, pn, pl, pc, ep⟩ : ∃ (a b : Int) (l : Ts) (c : Int), powR dv nv lv kv = (a, b, l, c) := ⟨_, _, _, _, rfl⟩
    have HP := Aside0.mk ep
    have hpl : pl.length ≤ 1048576 := by have h := pow_len (d := dv) (n := nv) (l := lv) (k := kv); rw [ep] at h; exact h
    have hpc : (pc != pc) = false := by simp
    have HBP := Aside0.mk (show bnd pl = true by rcases powR_cases dv nv lv kv with ⟨z, _, _, _, _, h1, h2⟩ | ⟨c, _, h1⟩ <;> rw [ep] at h1 <;> injection h1 with _ h1 <;> injection h1 with _ h1 <;> injection h1 with h1 _ <;> rw [h1] <;> first | exact isS_bnd' h2 | rfl)
    clear ep
    obtain ⟨ca, cb, ce, eco⟩ : ∃ a b c : Int, constR dv nv lv = (a, b, c) := ⟨_, _, _, rfl⟩
    have HCO := Aside0.mk eco
    have hce : (ce != ce) = false := by simp
    have hca : (ca != ca) = false := by simp
    have hcb : (cb != cb) = false := by simp
    have hca2 : (ca == ca) = true := by simp
    have hcb2 : (cb == cb) = true := by simp
    clear eco
    have f1_ := HS.out.c 0 0 (v := .int .i64 dv) rfl rfl
    have f2_ := HS.out.c 0 1 (v := .int .i64 nv) rfl rfl
    have f3_ := HS.out.c 0 2 (v := .slice Bv lv.length mv) rfl rfl
    have tk2_ : True := trivial
    go_upto_region 26 with (first | (go_at_call 25; refine (got (implPowerSeries dv nv Bv mv lv kv _ (HS.out.reads 1 rfl) (HS.out.cap 1 rfl) HBV.out) HP.out).mono ?_; rintro e_ w1 ⟨C5, e5, rfl, hs⟩; replace HS := sN1 HS hs; clear hs f1_ f2_ f3_) | ((with_reducible refine gate_dst (N := 15) rfl ?_); refine bxL 26 #[(.int .i64 0), (.int .i64 0), (.slice none 0 0)] HS ?_; clear HS; intro g_pi w1 hg_pi HS) | ((with_reducible refine gate_store (t := 26) (p := 15) rfl ?_); refine stL HS 0 0 #[.int .i64 pd, .int .i64 pn, .slice C5 pl.length e5] rfl rfl rfl rfl rfl ?_; clear HS; intro w1 HS; have f1_ := HS.out.c 2 0 (v := .int .i64 dv) rfl rfl; have f2_ := HS.out.c 2 1 (v := .int .i64 nv) rfl rfl; have f3_ := HS.out.c 2 2 (v := .slice Bv lv.length mv) rfl rfl) | (go_at_call 26; refine (got (specPowerSeries dv nv Bv mv lv kv _ (HS.out.reads 3 rfl) (HS.out.cap 3 rfl) HBV.out) HP.out).mono ?_; rintro e_ w1 ⟨C6, e6, rfl, hs⟩; replace HS := sN1 HS hs; clear hs f1_ f2_ f3_) | ((with_reducible refine gate_dst (N := 17) rfl ?_); refine bxL 26 #[(.int .i64 0), (.int .i64 0), (.slice none 0 0)] HS ?_; clear HS; intro g_ps w1 hg_ps HS) | ((with_reducible refine gate_store (t := 26) (p := 17) rfl ?_); refine stL HS 0 0 #[.int .i64 pd, .int .i64 pn, .slice C6 pl.length e6] rfl rfl rfl rfl rfl ?_; clear HS; intro w1 HS; have f1_ := HS.out.c 2 0 (v := .int .i64 pd) rfl rfl; have f2_ := HS.out.c 2 1 (v := .int .i64 pn) rfl rfl; have f3_ := HS.out.c 2 2 (v := .slice C5 pl.length e5) rfl rfl; have f4_ := HS.out.c 0 0 (v := .int .i64 pd) rfl rfl; have f5_ := HS.out.c 0 1 (v := .int .i64 pn) rfl rfl; have f6_ := HS.out.c 0 2 (v := .slice C6 pl.length e6) rfl rfl) | (go_at_call 10; clear tk2_; refine (lawSeries9 pd pn C5 C6 e5 e6 pl _ (HS.out.reads 3 rfl) (HS.out.reads 1 rfl) hpl).mono ?_; rintro e_ w1 ⟨rfl, hb⟩; replace HS := sB HS hb; clear hb f1_ f2_ f3_ f4_ f5_ f6_) | (go_at_call 27; refine (specDrawUnitSeries A c xs _ (HX.out.old HS.out)).mono ?_; rintro e_ w1 ⟨du, nu, rfl, hu1, hu2, hu3, hu4, hb⟩; replace HS := sB HS hb; clear hb; obtain ⟨ud, un, ul, uc, eu⟩ : ∃ (a b : Int) (l : Ts) (c : Int), unitR du nu = (a, b, l, c) := ⟨_, _, _, _, rfl⟩; have HU := Aside0.mk eu; have hul : ul.length ≤ 1048576 := (by have h := unit_len du nu; rw [eu] at h; exact h); have huc : (uc != uc) = false := (by simp); clear eu) | (go_at_call 28; refine (got (implUnitSeries du nu _) HU.out).mono ?_; rintro e_ w1 ⟨C7, e7, rfl, hs⟩; replace HS := sN1 HS hs; clear hs) | ((with_reducible refine gate_dst (N := 21) rfl ?_); refine bxL 26 #[(.int .i64 0), (.int .i64 0), (.slice none 0 0)] HS ?_; clear HS; intro g_ui w1 hg_ui HS) | ((with_reducible refine gate_store (t := 26) (p := 21) rfl ?_); refine stL HS 0 0 #[.int .i64 ud, .int .i64 un, .slice C7 ul.length e7] rfl rfl rfl rfl rfl ?_; clear HS; intro w1 HS) | (go_at_call 29; refine (got (specUnitSeries du nu _) HU.out).mono ?_; rintro e_ w1 ⟨C8, e8, rfl, hs⟩; replace HS := sN1 HS hs; clear hs) | ((with_reducible refine gate_dst (N := 23) rfl ?_); refine bxL 26 #[(.int .i64 0), (.int .i64 0), (.slice none 0 0)] HS ?_; clear HS; intro g_us w1 hg_us HS) | ((with_reducible refine gate_store (t := 26) (p := 23) rfl ?_); refine stL HS 0 0 #[.int .i64 ud, .int .i64 un, .slice C8 ul.length e8] rfl rfl rfl rfl rfl ?_; clear HS; intro w1 HS; have f1_ := HS.out.c 2 0 (v := .int .i64 ud) rfl rfl; have f2_ := HS.out.c 2 1 (v := .int .i64 un) rfl rfl; have f3_ := HS.out.c 2 2 (v := .slice C7 ul.length e7) rfl rfl; have f4_ := HS.out.c 0 0 (v := .int .i64 ud) rfl rfl; have f5_ := HS.out.c 0 1 (v := .int .i64 un) rfl rfl; have f6_ := HS.out.c 0 2 (v := .slice C8 ul.length e8) rfl rfl) | (go_at_call 10; refine (lawSeries9 ud un C7 C8 e7 e8 ul _ (HS.out.reads 3 rfl) (HS.out.reads 1 rfl) hul).mono ?_; rintro e_ w1 ⟨rfl, hb⟩; replace HS := sB HS hb; clear hb f1_ f2_ f3_ f4_ f5_ f6_; have f1_ := HS.out.c 8 0 (v := .int .i64 dv) rfl rfl; have f2_ := HS.out.c 8 1 (v := .int .i64 nv) rfl rfl; have f3_ := HS.out.c 8 2 (v := .slice Bv lv.length mv) rfl rfl) | (go_at_call 30; refine (gotF (implConstantOf dv nv Bv mv lv _ (HS.out.reads 9 rfl) (HS.out.cap 9 rfl) HBV.out) HCO.out).mono ?_; rintro e_ w1 ⟨rfl, hb⟩; replace HS := sB HS hb; clear hb f1_ f2_ f3_) | ((with_reducible refine gate_dst (N := 25) rfl ?_); refine bxL 34 #[(.int .i64 0), (.int .i64 0)] HS ?_; clear HS; intro g_ki w1 hg_ki HS) | ((with_reducible refine gate_store (t := 34) (p := 25) rfl ?_); refine stL HS 0 0 #[.int .i64 ca, .int .i64 cb] rfl rfl rfl rfl rfl ?_; clear HS; intro w1 HS; have f1_ := HS.out.c 9 0 (v := .int .i64 dv) rfl rfl; have f2_ := HS.out.c 9 1 (v := .int .i64 nv) rfl rfl; have f3_ := HS.out.c 9 2 (v := .slice Bv lv.length mv) rfl rfl) | (go_at_call 31; refine (gotF (specConstantOf dv nv Bv mv lv _ (HS.out.reads 10 rfl) (HS.out.cap 10 rfl) HBV.out) HCO.out).mono ?_; rintro e_ w1 ⟨rfl, hb⟩; replace HS := sB HS hb; clear hb f1_ f2_ f3_) | ((with_reducible refine gate_dst (N := 27) rfl ?_); refine bxL 34 #[(.int .i64 0), (.int .i64 0)] HS ?_; clear HS; intro g_ks w1 hg_ks HS) | ((with_reducible refine gate_store (t := 34) (p := 27) rfl ?_); refine stL HS 0 0 #[.int .i64 ca, .int .i64 cb] rfl rfl rfl rfl rfl ?_; clear HS; intro w1 HS; have f1_ := HS.out.c 1 0 (v := .int .i64 ca) rfl rfl; have f2_ := HS.out.c 1 1 (v := .int .i64 cb) rfl rfl; have f3_ := HS.out.c 0 0 (v := .int .i64 ca) rfl rfl; have f4_ := HS.out.c 0 1 (v := .int .i64 cb) rfl rfl))
    obtain ⟨bb, hbb⟩ : ∃ bb : Bool, bb = decide (pc = 0 ∧ kv < 12) := ⟨_, rfl⟩
    have HBB := Aside0.mk hbb
    clear hbb
    go_cut [169] from 164 (fun s169 w' => s169 = .bool bb ∧ Aside0 (Mod w w' No [bx g_ks 34 #[.int .i64 ca, .int .i64 cb], bx g_ki 34 #[.int .i64 ca, .int .i64 cb], bx g_us 26 #[.int .i64 ud, .int .i64 un, .slice C8 ul.length e8], rowT C8 e8 ul, bx g_ui 26 #[.int .i64 ud, .int .i64 un, .slice C7 ul.length e7], rowT C7 e7 ul, bx g_ps 26 #[.int .i64 pd, .int .i64 pn, .slice C6 pl.length e6], rowT C6 e6 pl, bx g_pi 26 #[.int .i64 pd, .int .i64 pn, .slice C5 pl.length e5], rowT C5 e5 pl, bx g_v 26 #[.int .i64 dv, .int .i64 nv, .slice Bv lv.length mv], rowT Bv mv lv, bx g_c2 26 #[.int .i64 qd, .int .i64 qn, .slice C4 ql.length e4], rowT C4 e4 ql, bx g_c1 26 #[.int .i64 qd, .int .i64 qn, .slice C3 ql.length e3], rowT C3 e3 ql, bx g_m2 26 #[.int .i64 md, .int .i64 mn, .slice C2 ml.length e2], rowT C2 e2 ml, bx g_m1 26 #[.int .i64 md, .int .i64 mn, .slice C1 ml.length e1], rowT C1 e1 ml, bx g_y 26 #[.int .i64 dz, .int .i64 nz, .slice Bz lz.length mz], bx g_x 26 #[.int .i64 dx, .int .i64 nx, .slice Bx lx.length mx], rowT Bx mx lx, rowT Bz mz lz]))
    case first =>
      by_cases hp0 : pc = 0
      · have hpb : (pc == 0) = true := by rw [hp0]; rfl
        go_wp2_with fail
        go_meet
        case rel => exact ⟨by rw [HBB.out]; simp [hp0], HS⟩
      · have hpb : (pc == 0) = false := by simpa using hp0
        go_wp2_with fail
        go_meet
        case rel => exact ⟨by rw [HBB.out]; simp [hp0], HS⟩
    case rest =>
      obtain ⟨rfl, HS⟩ := hcut
      go_upto_if 169 with fail
      go_cut [] from 29 (fun w' => Aside0 (Mod w w' No [bx g_ks 34 #[.int .i64 ca, .int .i64 cb], bx g_ki 34 #[.int .i64 ca, .int .i64 cb], bx g_us 26 #[.int .i64 ud, .int .i64 un, .slice C8 ul.length e8], rowT C8 e8 ul, bx g_ui 26 #[.int .i64 ud, .int .i64 un, .slice C7 ul.length e7], rowT C7 e7 ul, bx g_ps 26 #[.int .i64 pd, .int .i64 pn, .slice C6 pl.length e6], rowT C6 e6 pl, bx g_pi 26 #[.int .i64 pd, .int .i64 pn, .slice C5 pl.length e5], rowT C5 e5 pl, bx g_v 26 #[.int .i64 dv, .int .i64 nv, .slice Bv lv.length mv], rowT Bv mv lv, bx g_c2 26 #[.int .i64 qd, .int .i64 qn, .slice C4 ql.length e4], rowT C4 e4 ql, bx g_c1 26 #[.int .i64 qd, .int .i64 qn, .slice C3 ql.length e3], rowT C3 e3 ql, bx g_m2 26 #[.int .i64 md, .int .i64 mn, .slice C2 ml.length e2], rowT C2 e2 ml, bx g_m1 26 #[.int .i64 md, .int .i64 mn, .slice C1 ml.length e1], rowT C1 e1 ml, bx g_y 26 #[.int .i64 dz, .int .i64 nz, .slice Bz lz.length mz], bx g_x 26 #[.int .i64 dx, .int .i64 nx, .slice Bx lx.length mx], rowT Bx mx lx, rowT Bz mz lz]))
      case first =>
        cases bb with
        | true =>
          have hpk := of_decide_eq_true HBB.out.symm
          obtain ⟨_, hQ, en⟩ := powR_next (k := kv) (p := pl) (x := lv) (d := dv) (n := nv) (by rcases powR_cases dv nv lv kv with ⟨z, _, _, _, _, h1, h2⟩ | ⟨c, hc, h1⟩ <;> have h3 := HP.out.symm.trans h1 <;> injection h3 with a1 h3 <;> injection h3 with a2 h3 <;> injection h3 with a3 a4 <;> first | (rw [h1, a3]; done) | (exact absurd (a4.symm.trans hpk.1) hc)) hpk.2
          have hpd2 : pd = dv ∧ pn = nv := by rcases powR_cases dv nv lv kv with ⟨z, _, _, _, _, h1, h2⟩ | ⟨c, hc, h1⟩ <;> have h3 := HP.out.symm.trans h1 <;> injection h3 with a1 h3 <;> injection h3 with a2 h3 <;> injection h3 with a3 a4 <;> first | exact ⟨a1, a2⟩ | exact absurd (a4.symm.trans hpk.1) hc
          obtain ⟨od, on, ol, oc, em⟩ : ∃ (a b : Int) (l : Ts) (c : Int), mulR dv nv pl dv nv lv = (a, b, l, c) := ⟨_, _, _, _, rfl⟩
          have hol : ol.length ≤ 1048576 := by have h := (bnd_iff.1 (mulR_bnd dv nv pl dv nv lv)).1; rw [em] at h; exact h
          rw [em] at en
          have HEN := Aside0.mk en
          have HEM := Aside0.mk (show mulR pd pn pl dv nv lv = (od, on, ol, oc) by rw [hpd2.1, hpd2.2]; exact em)
          have hoc : (oc != oc) = false := by simp
          have hw := wrap_id (x := kv + 1) (by omega) (by omega)
          have HW := Aside0.mk hw
          clear en em hQ hw hpk hpd2
          clear f1_ f2_ f3_ f4_
          have f1_ := HS.out.c 10 0 (v := .int .i64 dv) rfl rfl
          have f2_ := HS.out.c 10 1 (v := .int .i64 nv) rfl rfl
          have f3_ := HS.out.c 10 2 (v := .slice Bv lv.length mv) rfl rfl
          go_wp2_with (first | (go_at_call 25; refine (got (implPowerSeries dv nv Bv mv lv (kv + 1) _ (HS.out.reads 11 rfl) (HS.out.cap 11 rfl) HBV.out) HEN.out).mono ?_; rintro e_ w1 ⟨C9, e9, rfl, hs⟩; replace HS := sN1 HS hs; clear hs f1_ f2_ f3_) | ((with_reducible refine gate_dst (N := 29) rfl ?_); refine bxL 26 #[(.int .i64 0), (.int .i64 0), (.slice none 0 0)] HS ?_; clear HS; intro g_nx w1 hg_nx HS) | ((with_reducible refine gate_store (t := 26) (p := 29) rfl ?_); refine stL HS 0 0 #[.int .i64 od, .int .i64 on, .slice C9 ol.length e9] rfl rfl rfl rfl rfl ?_; clear HS; intro w1 HS; have f1_ := HS.out.c 10 0 (v := .int .i64 pd) rfl rfl; have f2_ := HS.out.c 10 1 (v := .int .i64 pn) rfl rfl; have f3_ := HS.out.c 10 2 (v := .slice C5 pl.length e5) rfl rfl; have f4_ := HS.out.c 12 0 (v := .int .i64 dv) rfl rfl; have f5_ := HS.out.c 12 1 (v := .int .i64 nv) rfl rfl; have f6_ := HS.out.c 12 2 (v := .slice Bv lv.length mv) rfl rfl) | (go_at_call 18; refine (got (implMultiplySeries pd pn C5 e5 pl dv nv Bv mv lv _ (HS.out.reads 11 rfl) (HS.out.cap 11 rfl) HBP.out (HS.out.reads 13 rfl) (HS.out.cap 13 rfl) HBV.out) HEM.out).mono ?_; rintro e_ w1 ⟨C10, e10, rfl, hs⟩; replace HS := sN1 HS hs; clear hs f1_ f2_ f3_ f4_ f5_ f6_) | ((with_reducible refine gate_dst (N := 31) rfl ?_); refine bxL 26 #[(.int .i64 0), (.int .i64 0), (.slice none 0 0)] HS ?_; clear HS; intro g_du w1 hg_du HS) | ((with_reducible refine gate_store (t := 26) (p := 31) rfl ?_); refine stL HS 0 0 #[.int .i64 od, .int .i64 on, .slice C10 ol.length e10] rfl rfl rfl rfl rfl ?_; clear HS; intro w1 HS; have f1_ := HS.out.c 2 0 (v := .int .i64 od) rfl rfl; have f2_ := HS.out.c 2 1 (v := .int .i64 on) rfl rfl; have f3_ := HS.out.c 2 2 (v := .slice C9 ol.length e9) rfl rfl; have f4_ := HS.out.c 0 0 (v := .int .i64 od) rfl rfl; have f5_ := HS.out.c 0 1 (v := .int .i64 on) rfl rfl; have f6_ := HS.out.c 0 2 (v := .slice C10 ol.length e10) rfl rfl) | (go_at_call 10; refine (lawSeries9 od on C9 C10 e9 e10 ol _ (HS.out.reads 3 rfl) (HS.out.reads 1 rfl) hol).mono ?_; rintro e_ w1 ⟨rfl, hb⟩; replace HS := sB HS hb; clear hb f1_ f2_ f3_ f4_ f5_ f6_))
          go_meet
          case rel => exact sX HS [4, 5, 6, 7, 8, 9, 10, 11, 12, 13, 14, 15, 16, 17, 18, 19, 20, 21, 22, 23, 24, 25, 26, 27]
        | false =>
          go_wp2_with fail
          go_meet
          case rel => exact sX HS [0, 1, 2, 3, 4, 5, 6, 7, 8, 9, 10, 11, 12, 13, 14, 15, 16, 17, 18, 19, 20, 21, 22, 23]
      case rest =>
        have HS := hcut
        clear hcut
        rcases mulR_cases dx nx lx dz nz lz with ⟨p, hA, hB, rfl, rfl, _, he, hP⟩ | ⟨cm, hcm, he⟩
        · obtain ⟨r1, r2, r3, r4⟩ : md = dx ∧ mn = nx ∧ ml = p ∧ mc = 0 := by have h3 := HM.out.symm.trans he; injection h3 with a1 h3; injection h3 with a2 h3; injection h3 with a3 a4; exact ⟨a1, a2, a3, a4⟩
          have hmb : (mc != 0) = false := by rw [r4]; rfl
          have HUX := Aside0.mk (unitR_yes (isS_l hA))
          have HBU := Aside0.mk (isS_bnd' (unit_isS (isS_l hA)))
          have HUL := Aside0.mk (mulR_unit_l hA)
          have HUR := Aside0.mk (mulR_unit_r hA)
          have HAS := Aside0.mk (fun h1 h2 h3 => mulR_assoc he h1 h2 h3)
          rw [← r3] at HAS
          obtain ⟨fd, fn, fl, fc, ef⟩ : ∃ (a b : Int) (l : Ts) (c : Int), mulR dx nx ml dx nx lx = (a, b, l, c) := ⟨_, _, _, _, rfl⟩
          obtain ⟨id, jn, il, ic, ei⟩ : ∃ (a b : Int) (l : Ts) (c : Int), mulR dx nx lz dx nx lx = (a, b, l, c) := ⟨_, _, _, _, rfl⟩
          obtain ⟨sd, sn, sl, sc, es⟩ : ∃ (a b : Int) (l : Ts) (c : Int), mulR dx nx lx id jn il = (a, b, l, c) := ⟨_, _, _, _, rfl⟩
          have HBI := Aside0.mk (show bnd il = true by have h := mulR_bnd dx nx lz dx nx lx; rw [ei] at h; exact h)
          have hfl : fl.length ≤ 1048576 := by have h := (bnd_iff.1 (mulR_bnd dx nx ml dx nx lx)).1; rw [ef] at h; exact h
          have HF := Aside0.mk (show mulR md mn ml dx nx lx = (fd, fn, fl, fc) by rw [r1, r2]; exact ef)
          have HI := Aside0.mk ei
          have HSS := Aside0.mk es
          have HAA : fc = 0 → ic = 0 → sc = 0 → (sd = fd ∧ sn = fn ∧ sl = fl) := fun h1 h2 h3 => by
            have h := HAS.out (by rw [ef]; exact h1) (by rw [ei]; exact h2) (by rw [ei]; show (mulR dx nx lx id jn il).2.2.2 = 0; rw [es]; exact h3)
            rw [ei] at h
            have h2 : mulR dx nx ml dx nx lx = mulR dx nx lx id jn il := h
            rw [ef, es] at h2
            injection h2 with a1 h2; injection h2 with a2 h2; injection h2 with a3 h2
            exact ⟨a1.symm, a2.symm, a3.symm⟩
          clear he hA hB hP r1 r2 r3 r4 HAS ef ei es
          by_cases hfc0 : fc = 0
          · skip
            by_cases hic0 : ic = 0
            · skip
              by_cases hsc0 : sc = 0
              · obtain ⟨q1, q2, q3⟩ := HAA hfc0 hic0 hsc0
                rw [q1, q2, q3] at HSS
                have hfc : (fc != 0) = false := by rw [hfc0]; rfl
                have hic : (ic != 0) = false := by rw [hic0]; rfl
                have hsc : (sc != 0) = false := by rw [hsc0]; rfl
                clear HAA hfc0 hic0 hsc0 q1 q2 q3
                clear f1_ f2_ f3_ f4_
                have f1_ := HS.out.c 21 0 (v := .int .i64 dx) rfl rfl
                have f2_ := HS.out.c 21 1 (v := .int .i64 nx) rfl rfl
                have tk3_ : True := trivial
                have tk4_ : True := trivial
                have tk5_ : True := trivial
                have tk6_ : True := trivial
                have tk7_ : True := trivial
                have tk8_ : True := trivial
                go_wp2_with (first | (go_at_call 28; refine (got (implUnitSeries dx nx _) HUX.out).mono ?_; rintro e_ w1 ⟨C11, e11, rfl, hs⟩; replace HS := sN1 HS hs; clear hs f1_ f2_) | ((with_reducible refine gate_dst (N := 33) rfl ?_); refine bxL 26 #[(.int .i64 0), (.int .i64 0), (.slice none 0 0)] HS ?_; clear HS; intro g_un w1 hg_un HS) | ((with_reducible refine gate_store (t := 26) (p := 33) rfl ?_); refine stL HS 0 0 #[.int .i64 dx, .int .i64 nx, .slice C11 unitT.length e11] rfl rfl rfl rfl rfl ?_; clear HS; intro w1 HS; have f1_ := HS.out.c 0 0 (v := .int .i64 dx) rfl rfl; have f2_ := HS.out.c 0 1 (v := .int .i64 nx) rfl rfl; have f3_ := HS.out.c 0 2 (v := .slice C11 unitT.length e11) rfl rfl; have f4_ := HS.out.c 23 0 (v := .int .i64 dx) rfl rfl; have f5_ := HS.out.c 23 1 (v := .int .i64 nx) rfl rfl; have f6_ := HS.out.c 23 2 (v := .slice Bx lx.length mx) rfl rfl) | (go_at_call 18; clear tk3_; refine (got (implMultiplySeries dx nx C11 e11 unitT dx nx Bx mx lx _ (HS.out.reads 1 rfl) (HS.out.cap 1 rfl) HBU.out (HS.out.reads 24 rfl) (HS.out.cap 24 rfl) HBX.out) HUL.out).mono ?_; rintro e_ w1 ⟨C12, e12, rfl, hs⟩; replace HS := sN1 HS hs; clear hs f1_ f2_ f3_ f4_ f5_ f6_) | ((with_reducible refine gate_dst (N := 35) rfl ?_); refine bxL 26 #[(.int .i64 0), (.int .i64 0), (.slice none 0 0)] HS ?_; clear HS; intro g_le w1 hg_le HS) | ((with_reducible refine gate_store (t := 26) (p := 35) rfl ?_); refine stL HS 0 0 #[.int .i64 dx, .int .i64 nx, .slice C12 lx.length e12] rfl rfl rfl rfl rfl ?_; clear HS; intro w1 HS; have f1_ := HS.out.c 25 0 (v := .int .i64 dx) rfl rfl; have f2_ := HS.out.c 25 1 (v := .int .i64 nx) rfl rfl; have f3_ := HS.out.c 25 2 (v := .slice Bx lx.length mx) rfl rfl; have f4_ := HS.out.c 2 0 (v := .int .i64 dx) rfl rfl; have f5_ := HS.out.c 2 1 (v := .int .i64 nx) rfl rfl; have f6_ := HS.out.c 2 2 (v := .slice C11 unitT.length e11) rfl rfl) | (go_at_call 18; clear tk4_; refine (got (implMultiplySeries dx nx Bx mx lx dx nx C11 e11 unitT _ (HS.out.reads 26 rfl) (HS.out.cap 26 rfl) HBX.out (HS.out.reads 3 rfl) (HS.out.cap 3 rfl) HBU.out) HUR.out).mono ?_; rintro e_ w1 ⟨C13, e13, rfl, hs⟩; replace HS := sN1 HS hs; clear hs f1_ f2_ f3_ f4_ f5_ f6_) | ((with_reducible refine gate_dst (N := 37) rfl ?_); refine bxL 26 #[(.int .i64 0), (.int .i64 0), (.slice none 0 0)] HS ?_; clear HS; intro g_ri w1 hg_ri HS) | ((with_reducible refine gate_store (t := 26) (p := 37) rfl ?_); refine stL HS 0 0 #[.int .i64 dx, .int .i64 nx, .slice C13 lx.length e13] rfl rfl rfl rfl rfl ?_; clear HS; intro w1 HS; have f1_ := HS.out.c 2 0 (v := .int .i64 dx) rfl rfl; have f2_ := HS.out.c 2 1 (v := .int .i64 nx) rfl rfl; have f3_ := HS.out.c 2 2 (v := .slice C12 lx.length e12) rfl rfl; have f4_ := HS.out.c 27 0 (v := .int .i64 dx) rfl rfl; have f5_ := HS.out.c 27 1 (v := .int .i64 nx) rfl rfl; have f6_ := HS.out.c 27 2 (v := .slice Bx lx.length mx) rfl rfl) | (go_at_call 10; clear tk5_; refine (lawSeries9 dx nx C12 Bx e12 mx lx _ (HS.out.reads 3 rfl) (HS.out.reads 28 rfl) (bnd_iff.1 HBX.out).1).mono ?_; rintro e_ w1 ⟨rfl, hb⟩; replace HS := sB HS hb; clear hb f1_ f2_ f3_ f4_ f5_ f6_; have f1_ := HS.out.c 0 0 (v := .int .i64 dx) rfl rfl; have f2_ := HS.out.c 0 1 (v := .int .i64 nx) rfl rfl; have f3_ := HS.out.c 0 2 (v := .slice C13 lx.length e13) rfl rfl; have f4_ := HS.out.c 27 0 (v := .int .i64 dx) rfl rfl; have f5_ := HS.out.c 27 1 (v := .int .i64 nx) rfl rfl; have f6_ := HS.out.c 27 2 (v := .slice Bx lx.length mx) rfl rfl) | (go_at_call 10; clear tk6_; refine (lawSeries9 dx nx C13 Bx e13 mx lx _ (HS.out.reads 1 rfl) (HS.out.reads 28 rfl) (bnd_iff.1 HBX.out).1).mono ?_; rintro e_ w1 ⟨rfl, hb⟩; replace HS := sB HS hb; clear hb f1_ f2_ f3_ f4_ f5_ f6_; have f1_ := HS.out.c 24 0 (v := .int .i64 md) rfl rfl; have f2_ := HS.out.c 24 1 (v := .int .i64 mn) rfl rfl; have f3_ := HS.out.c 24 2 (v := .slice C1 ml.length e1) rfl rfl; have f4_ := HS.out.c 27 0 (v := .int .i64 dx) rfl rfl; have f5_ := HS.out.c 27 1 (v := .int .i64 nx) rfl rfl; have f6_ := HS.out.c 27 2 (v := .slice Bx lx.length mx) rfl rfl) | (go_at_call 18; clear tk7_; refine (got (implMultiplySeries md mn C1 e1 ml dx nx Bx mx lx _ (HS.out.reads 25 rfl) (HS.out.cap 25 rfl) HBM.out (HS.out.reads 28 rfl) (HS.out.cap 28 rfl) HBX.out) HF.out).mono ?_; rintro e_ w1 ⟨C14, e14, rfl, hs⟩; replace HS := sN1 HS hs; clear hs f1_ f2_ f3_ f4_ f5_ f6_) | ((with_reducible refine gate_dst (N := 39) rfl ?_); refine bxL 26 #[(.int .i64 0), (.int .i64 0), (.slice none 0 0)] HS ?_; clear HS; intro g_fi w1 hg_fi HS) | ((with_reducible refine gate_store (t := 26) (p := 39) rfl ?_); refine stL HS 0 0 #[.int .i64 fd, .int .i64 fn, .slice C14 fl.length e14] rfl rfl rfl rfl rfl ?_; clear HS; intro w1 HS; have f1_ := HS.out.c 28 0 (v := .int .i64 dx) rfl rfl; have f2_ := HS.out.c 28 1 (v := .int .i64 nx) rfl rfl; have f3_ := HS.out.c 28 2 (v := .slice Bz lz.length mz) rfl rfl; have f4_ := HS.out.c 29 0 (v := .int .i64 dx) rfl rfl; have f5_ := HS.out.c 29 1 (v := .int .i64 nx) rfl rfl; have f6_ := HS.out.c 29 2 (v := .slice Bx lx.length mx) rfl rfl) | (go_at_call 18; clear tk8_; refine (got (implMultiplySeries dx nx Bz mz lz dx nx Bx mx lx _ (HS.out.reads 31 rfl) (HS.out.cap 31 rfl) HBY.out (HS.out.reads 30 rfl) (HS.out.cap 30 rfl) HBX.out) HI.out).mono ?_; rintro e_ w1 ⟨C15, e15, rfl, hs⟩; replace HS := sN1 HS hs; clear hs f1_ f2_ f3_ f4_ f5_ f6_) | ((with_reducible refine gate_dst (N := 41) rfl ?_); refine bxL 26 #[(.int .i64 0), (.int .i64 0), (.slice none 0 0)] HS ?_; clear HS; intro g_in w1 hg_in HS) | ((with_reducible refine gate_store (t := 26) (p := 41) rfl ?_); refine stL HS 0 0 #[.int .i64 id, .int .i64 jn, .slice C15 il.length e15] rfl rfl rfl rfl rfl ?_; clear HS; intro w1 HS; have f1_ := HS.out.c 31 0 (v := .int .i64 dx) rfl rfl; have f2_ := HS.out.c 31 1 (v := .int .i64 nx) rfl rfl; have f3_ := HS.out.c 31 2 (v := .slice Bx lx.length mx) rfl rfl; have f4_ := HS.out.c 0 0 (v := .int .i64 id) rfl rfl; have f5_ := HS.out.c 0 1 (v := .int .i64 jn) rfl rfl; have f6_ := HS.out.c 0 2 (v := .slice C15 il.length e15) rfl rfl) | (go_at_call 18; refine (got (implMultiplySeries dx nx Bx mx lx id jn C15 e15 il _ (HS.out.reads 32 rfl) (HS.out.cap 32 rfl) HBX.out (HS.out.reads 1 rfl) (HS.out.cap 1 rfl) HBI.out) HSS.out).mono ?_; rintro e_ w1 ⟨C16, e16, rfl, hs⟩; replace HS := sN1 HS hs; clear hs f1_ f2_ f3_ f4_ f5_ f6_) | ((with_reducible refine gate_dst (N := 43) rfl ?_); refine bxL 26 #[(.int .i64 0), (.int .i64 0), (.slice none 0 0)] HS ?_; clear HS; intro g_se w1 hg_se HS) | ((with_reducible refine gate_store (t := 26) (p := 43) rfl ?_); refine stL HS 0 0 #[.int .i64 fd, .int .i64 fn, .slice C16 fl.length e16] rfl rfl rfl rfl rfl ?_; clear HS; intro w1 HS; have f1_ := HS.out.c 4 0 (v := .int .i64 fd) rfl rfl; have f2_ := HS.out.c 4 1 (v := .int .i64 fn) rfl rfl; have f3_ := HS.out.c 4 2 (v := .slice C14 fl.length e14) rfl rfl; have f4_ := HS.out.c 0 0 (v := .int .i64 fd) rfl rfl; have f5_ := HS.out.c 0 1 (v := .int .i64 fn) rfl rfl; have f6_ := HS.out.c 0 2 (v := .slice C16 fl.length e16) rfl rfl) | (go_at_call 10; refine (lawSeries9 fd fn C14 C16 e14 e16 fl _ (HS.out.reads 5 rfl) (HS.out.reads 1 rfl) hfl).mono ?_; rintro e_ w1 ⟨rfl, hb⟩; replace HS := sB HS hb; clear hb f1_ f2_ f3_ f4_ f5_ f6_))
                go_ret
                exact ⟨rfl, (HS.out.sel [] (by decide)).below⟩
              · skip
                have hfc : (fc != 0) = false := by rw [hfc0]; rfl
                have hic : (ic != 0) = false := by rw [hic0]; rfl
                have hsc : (sc != 0) = true := by simpa using hsc0
                clear HAA hfc0 hic0 hsc0
                clear f1_ f2_ f3_ f4_
                have f1_ := HS.out.c 21 0 (v := .int .i64 dx) rfl rfl
                have f2_ := HS.out.c 21 1 (v := .int .i64 nx) rfl rfl
                have tk9_ : True := trivial
                have tk10_ : True := trivial
                have tk11_ : True := trivial
                have tk12_ : True := trivial
                have tk13_ : True := trivial
                go_wp2_with (first | (go_at_call 28; refine (got (implUnitSeries dx nx _) HUX.out).mono ?_; rintro e_ w1 ⟨C17, e17, rfl, hs⟩; replace HS := sN1 HS hs; clear hs f1_ f2_) | ((with_reducible refine gate_dst (N := 33) rfl ?_); refine bxL 26 #[(.int .i64 0), (.int .i64 0), (.slice none 0 0)] HS ?_; clear HS; intro g_un w1 hg_un HS) | ((with_reducible refine gate_store (t := 26) (p := 33) rfl ?_); refine stL HS 0 0 #[.int .i64 dx, .int .i64 nx, .slice C17 unitT.length e17] rfl rfl rfl rfl rfl ?_; clear HS; intro w1 HS; have f1_ := HS.out.c 0 0 (v := .int .i64 dx) rfl rfl; have f2_ := HS.out.c 0 1 (v := .int .i64 nx) rfl rfl; have f3_ := HS.out.c 0 2 (v := .slice C17 unitT.length e17) rfl rfl; have f4_ := HS.out.c 23 0 (v := .int .i64 dx) rfl rfl; have f5_ := HS.out.c 23 1 (v := .int .i64 nx) rfl rfl; have f6_ := HS.out.c 23 2 (v := .slice Bx lx.length mx) rfl rfl) | (go_at_call 18; clear tk9_; refine (got (implMultiplySeries dx nx C17 e17 unitT dx nx Bx mx lx _ (HS.out.reads 1 rfl) (HS.out.cap 1 rfl) HBU.out (HS.out.reads 24 rfl) (HS.out.cap 24 rfl) HBX.out) HUL.out).mono ?_; rintro e_ w1 ⟨C18, e18, rfl, hs⟩; replace HS := sN1 HS hs; clear hs f1_ f2_ f3_ f4_ f5_ f6_) | ((with_reducible refine gate_dst (N := 35) rfl ?_); refine bxL 26 #[(.int .i64 0), (.int .i64 0), (.slice none 0 0)] HS ?_; clear HS; intro g_le w1 hg_le HS) | ((with_reducible refine gate_store (t := 26) (p := 35) rfl ?_); refine stL HS 0 0 #[.int .i64 dx, .int .i64 nx, .slice C18 lx.length e18] rfl rfl rfl rfl rfl ?_; clear HS; intro w1 HS; have f1_ := HS.out.c 25 0 (v := .int .i64 dx) rfl rfl; have f2_ := HS.out.c 25 1 (v := .int .i64 nx) rfl rfl; have f3_ := HS.out.c 25 2 (v := .slice Bx lx.length mx) rfl rfl; have f4_ := HS.out.c 2 0 (v := .int .i64 dx) rfl rfl; have f5_ := HS.out.c 2 1 (v := .int .i64 nx) rfl rfl; have f6_ := HS.out.c 2 2 (v := .slice C17 unitT.length e17) rfl rfl) | (go_at_call 18; clear tk10_; refine (got (implMultiplySeries dx nx Bx mx lx dx nx C17 e17 unitT _ (HS.out.reads 26 rfl) (HS.out.cap 26 rfl) HBX.out (HS.out.reads 3 rfl) (HS.out.cap 3 rfl) HBU.out) HUR.out).mono ?_; rintro e_ w1 ⟨C19, e19, rfl, hs⟩; replace HS := sN1 HS hs; clear hs f1_ f2_ f3_ f4_ f5_ f6_) | ((with_reducible refine gate_dst (N := 37) rfl ?_); refine bxL 26 #[(.int .i64 0), (.int .i64 0), (.slice none 0 0)] HS ?_; clear HS; intro g_ri w1 hg_ri HS) | ((with_reducible refine gate_store (t := 26) (p := 37) rfl ?_); refine stL HS 0 0 #[.int .i64 dx, .int .i64 nx, .slice C19 lx.length e19] rfl rfl rfl rfl rfl ?_; clear HS; intro w1 HS; have f1_ := HS.out.c 2 0 (v := .int .i64 dx) rfl rfl; have f2_ := HS.out.c 2 1 (v := .int .i64 nx) rfl rfl; have f3_ := HS.out.c 2 2 (v := .slice C18 lx.length e18) rfl rfl; have f4_ := HS.out.c 27 0 (v := .int .i64 dx) rfl rfl; have f5_ := HS.out.c 27 1 (v := .int .i64 nx) rfl rfl; have f6_ := HS.out.c 27 2 (v := .slice Bx lx.length mx) rfl rfl) | (go_at_call 10; clear tk11_; refine (lawSeries9 dx nx C18 Bx e18 mx lx _ (HS.out.reads 3 rfl) (HS.out.reads 28 rfl) (bnd_iff.1 HBX.out).1).mono ?_; rintro e_ w1 ⟨rfl, hb⟩; replace HS := sB HS hb; clear hb f1_ f2_ f3_ f4_ f5_ f6_; have f1_ := HS.out.c 0 0 (v := .int .i64 dx) rfl rfl; have f2_ := HS.out.c 0 1 (v := .int .i64 nx) rfl rfl; have f3_ := HS.out.c 0 2 (v := .slice C19 lx.length e19) rfl rfl; have f4_ := HS.out.c 27 0 (v := .int .i64 dx) rfl rfl; have f5_ := HS.out.c 27 1 (v := .int .i64 nx) rfl rfl; have f6_ := HS.out.c 27 2 (v := .slice Bx lx.length mx) rfl rfl) | (go_at_call 10; refine (lawSeries9 dx nx C19 Bx e19 mx lx _ (HS.out.reads 1 rfl) (HS.out.reads 28 rfl) (bnd_iff.1 HBX.out).1).mono ?_; rintro e_ w1 ⟨rfl, hb⟩; replace HS := sB HS hb; clear hb f1_ f2_ f3_ f4_ f5_ f6_; have f1_ := HS.out.c 24 0 (v := .int .i64 md) rfl rfl; have f2_ := HS.out.c 24 1 (v := .int .i64 mn) rfl rfl; have f3_ := HS.out.c 24 2 (v := .slice C1 ml.length e1) rfl rfl; have f4_ := HS.out.c 27 0 (v := .int .i64 dx) rfl rfl; have f5_ := HS.out.c 27 1 (v := .int .i64 nx) rfl rfl; have f6_ := HS.out.c 27 2 (v := .slice Bx lx.length mx) rfl rfl) | (go_at_call 18; clear tk12_; refine (got (implMultiplySeries md mn C1 e1 ml dx nx Bx mx lx _ (HS.out.reads 25 rfl) (HS.out.cap 25 rfl) HBM.out (HS.out.reads 28 rfl) (HS.out.cap 28 rfl) HBX.out) HF.out).mono ?_; rintro e_ w1 ⟨C20, e20, rfl, hs⟩; replace HS := sN1 HS hs; clear hs f1_ f2_ f3_ f4_ f5_ f6_) | ((with_reducible refine gate_dst (N := 39) rfl ?_); refine bxL 26 #[(.int .i64 0), (.int .i64 0), (.slice none 0 0)] HS ?_; clear HS; intro g_fi w1 hg_fi HS) | ((with_reducible refine gate_store (t := 26) (p := 39) rfl ?_); refine stL HS 0 0 #[.int .i64 fd, .int .i64 fn, .slice C20 fl.length e20] rfl rfl rfl rfl rfl ?_; clear HS; intro w1 HS; have f1_ := HS.out.c 28 0 (v := .int .i64 dx) rfl rfl; have f2_ := HS.out.c 28 1 (v := .int .i64 nx) rfl rfl; have f3_ := HS.out.c 28 2 (v := .slice Bz lz.length mz) rfl rfl; have f4_ := HS.out.c 29 0 (v := .int .i64 dx) rfl rfl; have f5_ := HS.out.c 29 1 (v := .int .i64 nx) rfl rfl; have f6_ := HS.out.c 29 2 (v := .slice Bx lx.length mx) rfl rfl) | (go_at_call 18; clear tk13_; refine (got (implMultiplySeries dx nx Bz mz lz dx nx Bx mx lx _ (HS.out.reads 31 rfl) (HS.out.cap 31 rfl) HBY.out (HS.out.reads 30 rfl) (HS.out.cap 30 rfl) HBX.out) HI.out).mono ?_; rintro e_ w1 ⟨C21, e21, rfl, hs⟩; replace HS := sN1 HS hs; clear hs f1_ f2_ f3_ f4_ f5_ f6_) | ((with_reducible refine gate_dst (N := 41) rfl ?_); refine bxL 26 #[(.int .i64 0), (.int .i64 0), (.slice none 0 0)] HS ?_; clear HS; intro g_in w1 hg_in HS) | ((with_reducible refine gate_store (t := 26) (p := 41) rfl ?_); refine stL HS 0 0 #[.int .i64 id, .int .i64 jn, .slice C21 il.length e21] rfl rfl rfl rfl rfl ?_; clear HS; intro w1 HS; have f1_ := HS.out.c 31 0 (v := .int .i64 dx) rfl rfl; have f2_ := HS.out.c 31 1 (v := .int .i64 nx) rfl rfl; have f3_ := HS.out.c 31 2 (v := .slice Bx lx.length mx) rfl rfl; have f4_ := HS.out.c 0 0 (v := .int .i64 id) rfl rfl; have f5_ := HS.out.c 0 1 (v := .int .i64 jn) rfl rfl; have f6_ := HS.out.c 0 2 (v := .slice C21 il.length e21) rfl rfl) | (go_at_call 18; refine (got (implMultiplySeries dx nx Bx mx lx id jn C21 e21 il _ (HS.out.reads 32 rfl) (HS.out.cap 32 rfl) HBX.out (HS.out.reads 1 rfl) (HS.out.cap 1 rfl) HBI.out) HSS.out).mono ?_; rintro e_ w1 ⟨C22, e22, rfl, hs⟩; replace HS := sN1 HS hs; clear hs f1_ f2_ f3_ f4_ f5_ f6_) | ((with_reducible refine gate_dst (N := 43) rfl ?_); refine bxL 26 #[(.int .i64 0), (.int .i64 0), (.slice none 0 0)] HS ?_; clear HS; intro g_se w1 hg_se HS) | ((with_reducible refine gate_store (t := 26) (p := 43) rfl ?_); refine stL HS 0 0 #[.int .i64 sd, .int .i64 sn, .slice C22 sl.length e22] rfl rfl rfl rfl rfl ?_; clear HS; intro w1 HS))
                go_ret
                exact ⟨rfl, (HS.out.sel [] (by decide)).below⟩
            · skip
              have hfc : (fc != 0) = false := by rw [hfc0]; rfl
              have hic : (ic != 0) = true := by simpa using hic0
              clear HAA hfc0 hic0
              clear f1_ f2_ f3_ f4_
              have f1_ := HS.out.c 21 0 (v := .int .i64 dx) rfl rfl
              have f2_ := HS.out.c 21 1 (v := .int .i64 nx) rfl rfl
              have tk14_ : True := trivial
              have tk15_ : True := trivial
              have tk16_ : True := trivial
              have tk17_ : True := trivial
              have tk18_ : True := trivial
              go_wp2_with (first | (go_at_call 28; refine (got (implUnitSeries dx nx _) HUX.out).mono ?_; rintro e_ w1 ⟨C23, e23, rfl, hs⟩; replace HS := sN1 HS hs; clear hs f1_ f2_) | ((with_reducible refine gate_dst (N := 33) rfl ?_); refine bxL 26 #[(.int .i64 0), (.int .i64 0), (.slice none 0 0)] HS ?_; clear HS; intro g_un w1 hg_un HS) | ((with_reducible refine gate_store (t := 26) (p := 33) rfl ?_); refine stL HS 0 0 #[.int .i64 dx, .int .i64 nx, .slice C23 unitT.length e23] rfl rfl rfl rfl rfl ?_; clear HS; intro w1 HS; have f1_ := HS.out.c 0 0 (v := .int .i64 dx) rfl rfl; have f2_ := HS.out.c 0 1 (v := .int .i64 nx) rfl rfl; have f3_ := HS.out.c 0 2 (v := .slice C23 unitT.length e23) rfl rfl; have f4_ := HS.out.c 23 0 (v := .int .i64 dx) rfl rfl; have f5_ := HS.out.c 23 1 (v := .int .i64 nx) rfl rfl; have f6_ := HS.out.c 23 2 (v := .slice Bx lx.length mx) rfl rfl) | (go_at_call 18; clear tk14_; refine (got (implMultiplySeries dx nx C23 e23 unitT dx nx Bx mx lx _ (HS.out.reads 1 rfl) (HS.out.cap 1 rfl) HBU.out (HS.out.reads 24 rfl) (HS.out.cap 24 rfl) HBX.out) HUL.out).mono ?_; rintro e_ w1 ⟨C24, e24, rfl, hs⟩; replace HS := sN1 HS hs; clear hs f1_ f2_ f3_ f4_ f5_ f6_) | ((with_reducible refine gate_dst (N := 35) rfl ?_); refine bxL 26 #[(.int .i64 0), (.int .i64 0), (.slice none 0 0)] HS ?_; clear HS; intro g_le w1 hg_le HS) | ((with_reducible refine gate_store (t := 26) (p := 35) rfl ?_); refine stL HS 0 0 #[.int .i64 dx, .int .i64 nx, .slice C24 lx.length e24] rfl rfl rfl rfl rfl ?_; clear HS; intro w1 HS; have f1_ := HS.out.c 25 0 (v := .int .i64 dx) rfl rfl; have f2_ := HS.out.c 25 1 (v := .int .i64 nx) rfl rfl; have f3_ := HS.out.c 25 2 (v := .slice Bx lx.length mx) rfl rfl; have f4_ := HS.out.c 2 0 (v := .int .i64 dx) rfl rfl; have f5_ := HS.out.c 2 1 (v := .int .i64 nx) rfl rfl; have f6_ := HS.out.c 2 2 (v := .slice C23 unitT.length e23) rfl rfl) | (go_at_call 18; clear tk15_; refine (got (implMultiplySeries dx nx Bx mx lx dx nx C23 e23 unitT _ (HS.out.reads 26 rfl) (HS.out.cap 26 rfl) HBX.out (HS.out.reads 3 rfl) (HS.out.cap 3 rfl) HBU.out) HUR.out).mono ?_; rintro e_ w1 ⟨C25, e25, rfl, hs⟩; replace HS := sN1 HS hs; clear hs f1_ f2_ f3_ f4_ f5_ f6_) | ((with_reducible refine gate_dst (N := 37) rfl ?_); refine bxL 26 #[(.int .i64 0), (.int .i64 0), (.slice none 0 0)] HS ?_; clear HS; intro g_ri w1 hg_ri HS) | ((with_reducible refine gate_store (t := 26) (p := 37) rfl ?_); refine stL HS 0 0 #[.int .i64 dx, .int .i64 nx, .slice C25 lx.length e25] rfl rfl rfl rfl rfl ?_; clear HS; intro w1 HS; have f1_ := HS.out.c 2 0 (v := .int .i64 dx) rfl rfl; have f2_ := HS.out.c 2 1 (v := .int .i64 nx) rfl rfl; have f3_ := HS.out.c 2 2 (v := .slice C24 lx.length e24) rfl rfl; have f4_ := HS.out.c 27 0 (v := .int .i64 dx) rfl rfl; have f5_ := HS.out.c 27 1 (v := .int .i64 nx) rfl rfl; have f6_ := HS.out.c 27 2 (v := .slice Bx lx.length mx) rfl rfl) | (go_at_call 10; clear tk16_; refine (lawSeries9 dx nx C24 Bx e24 mx lx _ (HS.out.reads 3 rfl) (HS.out.reads 28 rfl) (bnd_iff.1 HBX.out).1).mono ?_; rintro e_ w1 ⟨rfl, hb⟩; replace HS := sB HS hb; clear hb f1_ f2_ f3_ f4_ f5_ f6_; have f1_ := HS.out.c 0 0 (v := .int .i64 dx) rfl rfl; have f2_ := HS.out.c 0 1 (v := .int .i64 nx) rfl rfl; have f3_ := HS.out.c 0 2 (v := .slice C25 lx.length e25) rfl rfl; have f4_ := HS.out.c 27 0 (v := .int .i64 dx) rfl rfl; have f5_ := HS.out.c 27 1 (v := .int .i64 nx) rfl rfl; have f6_ := HS.out.c 27 2 (v := .slice Bx lx.length mx) rfl rfl) | (go_at_call 10; refine (lawSeries9 dx nx C25 Bx e25 mx lx _ (HS.out.reads 1 rfl) (HS.out.reads 28 rfl) (bnd_iff.1 HBX.out).1).mono ?_; rintro e_ w1 ⟨rfl, hb⟩; replace HS := sB HS hb; clear hb f1_ f2_ f3_ f4_ f5_ f6_; have f1_ := HS.out.c 24 0 (v := .int .i64 md) rfl rfl; have f2_ := HS.out.c 24 1 (v := .int .i64 mn) rfl rfl; have f3_ := HS.out.c 24 2 (v := .slice C1 ml.length e1) rfl rfl; have f4_ := HS.out.c 27 0 (v := .int .i64 dx) rfl rfl; have f5_ := HS.out.c 27 1 (v := .int .i64 nx) rfl rfl; have f6_ := HS.out.c 27 2 (v := .slice Bx lx.length mx) rfl rfl) | (go_at_call 18; clear tk17_; refine (got (implMultiplySeries md mn C1 e1 ml dx nx Bx mx lx _ (HS.out.reads 25 rfl) (HS.out.cap 25 rfl) HBM.out (HS.out.reads 28 rfl) (HS.out.cap 28 rfl) HBX.out) HF.out).mono ?_; rintro e_ w1 ⟨C26, e26, rfl, hs⟩; replace HS := sN1 HS hs; clear hs f1_ f2_ f3_ f4_ f5_ f6_) | ((with_reducible refine gate_dst (N := 39) rfl ?_); refine bxL 26 #[(.int .i64 0), (.int .i64 0), (.slice none 0 0)] HS ?_; clear HS; intro g_fi w1 hg_fi HS) | ((with_reducible refine gate_store (t := 26) (p := 39) rfl ?_); refine stL HS 0 0 #[.int .i64 fd, .int .i64 fn, .slice C26 fl.length e26] rfl rfl rfl rfl rfl ?_; clear HS; intro w1 HS; have f1_ := HS.out.c 28 0 (v := .int .i64 dx) rfl rfl; have f2_ := HS.out.c 28 1 (v := .int .i64 nx) rfl rfl; have f3_ := HS.out.c 28 2 (v := .slice Bz lz.length mz) rfl rfl; have f4_ := HS.out.c 29 0 (v := .int .i64 dx) rfl rfl; have f5_ := HS.out.c 29 1 (v := .int .i64 nx) rfl rfl; have f6_ := HS.out.c 29 2 (v := .slice Bx lx.length mx) rfl rfl) | (go_at_call 18; clear tk18_; refine (got (implMultiplySeries dx nx Bz mz lz dx nx Bx mx lx _ (HS.out.reads 31 rfl) (HS.out.cap 31 rfl) HBY.out (HS.out.reads 30 rfl) (HS.out.cap 30 rfl) HBX.out) HI.out).mono ?_; rintro e_ w1 ⟨C27, e27, rfl, hs⟩; replace HS := sN1 HS hs; clear hs f1_ f2_ f3_ f4_ f5_ f6_) | ((with_reducible refine gate_dst (N := 41) rfl ?_); refine bxL 26 #[(.int .i64 0), (.int .i64 0), (.slice none 0 0)] HS ?_; clear HS; intro g_in w1 hg_in HS) | ((with_reducible refine gate_store (t := 26) (p := 41) rfl ?_); refine stL HS 0 0 #[.int .i64 id, .int .i64 jn, .slice C27 il.length e27] rfl rfl rfl rfl rfl ?_; clear HS; intro w1 HS; have f1_ := HS.out.c 31 0 (v := .int .i64 dx) rfl rfl; have f2_ := HS.out.c 31 1 (v := .int .i64 nx) rfl rfl; have f3_ := HS.out.c 31 2 (v := .slice Bx lx.length mx) rfl rfl; have f4_ := HS.out.c 0 0 (v := .int .i64 id) rfl rfl; have f5_ := HS.out.c 0 1 (v := .int .i64 jn) rfl rfl; have f6_ := HS.out.c 0 2 (v := .slice C27 il.length e27) rfl rfl) | (go_at_call 18; refine (got (implMultiplySeries dx nx Bx mx lx id jn C27 e27 il _ (HS.out.reads 32 rfl) (HS.out.cap 32 rfl) HBX.out (HS.out.reads 1 rfl) (HS.out.cap 1 rfl) HBI.out) HSS.out).mono ?_; rintro e_ w1 ⟨C28, e28, rfl, hs⟩; replace HS := sN1 HS hs; clear hs f1_ f2_ f3_ f4_ f5_ f6_) | ((with_reducible refine gate_dst (N := 43) rfl ?_); refine bxL 26 #[(.int .i64 0), (.int .i64 0), (.slice none 0 0)] HS ?_; clear HS; intro g_se w1 hg_se HS) | ((with_reducible refine gate_store (t := 26) (p := 43) rfl ?_); refine stL HS 0 0 #[.int .i64 sd, .int .i64 sn, .slice C28 sl.length e28] rfl rfl rfl rfl rfl ?_; clear HS; intro w1 HS))
              go_ret
              exact ⟨rfl, (HS.out.sel [] (by decide)).below⟩
          · skip
            have hfc : (fc != 0) = true := by simpa using hfc0
            clear HAA hfc0
            clear f1_ f2_ f3_ f4_
            have f1_ := HS.out.c 21 0 (v := .int .i64 dx) rfl rfl
            have f2_ := HS.out.c 21 1 (v := .int .i64 nx) rfl rfl
            have tk19_ : True := trivial
            have tk20_ : True := trivial
            have tk21_ : True := trivial
            have tk22_ : True := trivial
            have tk23_ : True := trivial
            go_wp2_with (first | (go_at_call 28; refine (got (implUnitSeries dx nx _) HUX.out).mono ?_; rintro e_ w1 ⟨C29, e29, rfl, hs⟩; replace HS := sN1 HS hs; clear hs f1_ f2_) | ((with_reducible refine gate_dst (N := 33) rfl ?_); refine bxL 26 #[(.int .i64 0), (.int .i64 0), (.slice none 0 0)] HS ?_; clear HS; intro g_un w1 hg_un HS) | ((with_reducible refine gate_store (t := 26) (p := 33) rfl ?_); refine stL HS 0 0 #[.int .i64 dx, .int .i64 nx, .slice C29 unitT.length e29] rfl rfl rfl rfl rfl ?_; clear HS; intro w1 HS; have f1_ := HS.out.c 0 0 (v := .int .i64 dx) rfl rfl; have f2_ := HS.out.c 0 1 (v := .int .i64 nx) rfl rfl; have f3_ := HS.out.c 0 2 (v := .slice C29 unitT.length e29) rfl rfl; have f4_ := HS.out.c 23 0 (v := .int .i64 dx) rfl rfl; have f5_ := HS.out.c 23 1 (v := .int .i64 nx) rfl rfl; have f6_ := HS.out.c 23 2 (v := .slice Bx lx.length mx) rfl rfl) | (go_at_call 18; clear tk19_; refine (got (implMultiplySeries dx nx C29 e29 unitT dx nx Bx mx lx _ (HS.out.reads 1 rfl) (HS.out.cap 1 rfl) HBU.out (HS.out.reads 24 rfl) (HS.out.cap 24 rfl) HBX.out) HUL.out).mono ?_; rintro e_ w1 ⟨C30, e30, rfl, hs⟩; replace HS := sN1 HS hs; clear hs f1_ f2_ f3_ f4_ f5_ f6_) | ((with_reducible refine gate_dst (N := 35) rfl ?_); refine bxL 26 #[(.int .i64 0), (.int .i64 0), (.slice none 0 0)] HS ?_; clear HS; intro g_le w1 hg_le HS) | ((with_reducible refine gate_store (t := 26) (p := 35) rfl ?_); refine stL HS 0 0 #[.int .i64 dx, .int .i64 nx, .slice C30 lx.length e30] rfl rfl rfl rfl rfl ?_; clear HS; intro w1 HS; have f1_ := HS.out.c 25 0 (v := .int .i64 dx) rfl rfl; have f2_ := HS.out.c 25 1 (v := .int .i64 nx) rfl rfl; have f3_ := HS.out.c 25 2 (v := .slice Bx lx.length mx) rfl rfl; have f4_ := HS.out.c 2 0 (v := .int .i64 dx) rfl rfl; have f5_ := HS.out.c 2 1 (v := .int .i64 nx) rfl rfl; have f6_ := HS.out.c 2 2 (v := .slice C29 unitT.length e29) rfl rfl) | (go_at_call 18; clear tk20_; refine (got (implMultiplySeries dx nx Bx mx lx dx nx C29 e29 unitT _ (HS.out.reads 26 rfl) (HS.out.cap 26 rfl) HBX.out (HS.out.reads 3 rfl) (HS.out.cap 3 rfl) HBU.out) HUR.out).mono ?_; rintro e_ w1 ⟨C31, e31, rfl, hs⟩; replace HS := sN1 HS hs; clear hs f1_ f2_ f3_ f4_ f5_ f6_) | ((with_reducible refine gate_dst (N := 37) rfl ?_); refine bxL 26 #[(.int .i64 0), (.int .i64 0), (.slice none 0 0)] HS ?_; clear HS; intro g_ri w1 hg_ri HS) | ((with_reducible refine gate_store (t := 26) (p := 37) rfl ?_); refine stL HS 0 0 #[.int .i64 dx, .int .i64 nx, .slice C31 lx.length e31] rfl rfl rfl rfl rfl ?_; clear HS; intro w1 HS; have f1_ := HS.out.c 2 0 (v := .int .i64 dx) rfl rfl; have f2_ := HS.out.c 2 1 (v := .int .i64 nx) rfl rfl; have f3_ := HS.out.c 2 2 (v := .slice C30 lx.length e30) rfl rfl; have f4_ := HS.out.c 27 0 (v := .int .i64 dx) rfl rfl; have f5_ := HS.out.c 27 1 (v := .int .i64 nx) rfl rfl; have f6_ := HS.out.c 27 2 (v := .slice Bx lx.length mx) rfl rfl) | (go_at_call 10; clear tk21_; refine (lawSeries9 dx nx C30 Bx e30 mx lx _ (HS.out.reads 3 rfl) (HS.out.reads 28 rfl) (bnd_iff.1 HBX.out).1).mono ?_; rintro e_ w1 ⟨rfl, hb⟩; replace HS := sB HS hb; clear hb f1_ f2_ f3_ f4_ f5_ f6_; have f1_ := HS.out.c 0 0 (v := .int .i64 dx) rfl rfl; have f2_ := HS.out.c 0 1 (v := .int .i64 nx) rfl rfl; have f3_ := HS.out.c 0 2 (v := .slice C31 lx.length e31) rfl rfl; have f4_ := HS.out.c 27 0 (v := .int .i64 dx) rfl rfl; have f5_ := HS.out.c 27 1 (v := .int .i64 nx) rfl rfl; have f6_ := HS.out.c 27 2 (v := .slice Bx lx.length mx) rfl rfl) | (go_at_call 10; refine (lawSeries9 dx nx C31 Bx e31 mx lx _ (HS.out.reads 1 rfl) (HS.out.reads 28 rfl) (bnd_iff.1 HBX.out).1).mono ?_; rintro e_ w1 ⟨rfl, hb⟩; replace HS := sB HS hb; clear hb f1_ f2_ f3_ f4_ f5_ f6_; have f1_ := HS.out.c 24 0 (v := .int .i64 md) rfl rfl; have f2_ := HS.out.c 24 1 (v := .int .i64 mn) rfl rfl; have f3_ := HS.out.c 24 2 (v := .slice C1 ml.length e1) rfl rfl; have f4_ := HS.out.c 27 0 (v := .int .i64 dx) rfl rfl; have f5_ := HS.out.c 27 1 (v := .int .i64 nx) rfl rfl; have f6_ := HS.out.c 27 2 (v := .slice Bx lx.length mx) rfl rfl) | (go_at_call 18; clear tk22_; refine (got (implMultiplySeries md mn C1 e1 ml dx nx Bx mx lx _ (HS.out.reads 25 rfl) (HS.out.cap 25 rfl) HBM.out (HS.out.reads 28 rfl) (HS.out.cap 28 rfl) HBX.out) HF.out).mono ?_; rintro e_ w1 ⟨C32, e32, rfl, hs⟩; replace HS := sN1 HS hs; clear hs f1_ f2_ f3_ f4_ f5_ f6_) | ((with_reducible refine gate_dst (N := 39) rfl ?_); refine bxL 26 #[(.int .i64 0), (.int .i64 0), (.slice none 0 0)] HS ?_; clear HS; intro g_fi w1 hg_fi HS) | ((with_reducible refine gate_store (t := 26) (p := 39) rfl ?_); refine stL HS 0 0 #[.int .i64 fd, .int .i64 fn, .slice C32 fl.length e32] rfl rfl rfl rfl rfl ?_; clear HS; intro w1 HS; have f1_ := HS.out.c 28 0 (v := .int .i64 dx) rfl rfl; have f2_ := HS.out.c 28 1 (v := .int .i64 nx) rfl rfl; have f3_ := HS.out.c 28 2 (v := .slice Bz lz.length mz) rfl rfl; have f4_ := HS.out.c 29 0 (v := .int .i64 dx) rfl rfl; have f5_ := HS.out.c 29 1 (v := .int .i64 nx) rfl rfl; have f6_ := HS.out.c 29 2 (v := .slice Bx lx.length mx) rfl rfl) | (go_at_call 18; clear tk23_; refine (got (implMultiplySeries dx nx Bz mz lz dx nx Bx mx lx _ (HS.out.reads 31 rfl) (HS.out.cap 31 rfl) HBY.out (HS.out.reads 30 rfl) (HS.out.cap 30 rfl) HBX.out) HI.out).mono ?_; rintro e_ w1 ⟨C33, e33, rfl, hs⟩; replace HS := sN1 HS hs; clear hs f1_ f2_ f3_ f4_ f5_ f6_) | ((with_reducible refine gate_dst (N := 41) rfl ?_); refine bxL 26 #[(.int .i64 0), (.int .i64 0), (.slice none 0 0)] HS ?_; clear HS; intro g_in w1 hg_in HS) | ((with_reducible refine gate_store (t := 26) (p := 41) rfl ?_); refine stL HS 0 0 #[.int .i64 id, .int .i64 jn, .slice C33 il.length e33] rfl rfl rfl rfl rfl ?_; clear HS; intro w1 HS; have f1_ := HS.out.c 31 0 (v := .int .i64 dx) rfl rfl; have f2_ := HS.out.c 31 1 (v := .int .i64 nx) rfl rfl; have f3_ := HS.out.c 31 2 (v := .slice Bx lx.length mx) rfl rfl; have f4_ := HS.out.c 0 0 (v := .int .i64 id) rfl rfl; have f5_ := HS.out.c 0 1 (v := .int .i64 jn) rfl rfl; have f6_ := HS.out.c 0 2 (v := .slice C33 il.length e33) rfl rfl) | (go_at_call 18; refine (got (implMultiplySeries dx nx Bx mx lx id jn C33 e33 il _ (HS.out.reads 32 rfl) (HS.out.cap 32 rfl) HBX.out (HS.out.reads 1 rfl) (HS.out.cap 1 rfl) HBI.out) HSS.out).mono ?_; rintro e_ w1 ⟨C34, e34, rfl, hs⟩; replace HS := sN1 HS hs; clear hs f1_ f2_ f3_ f4_ f5_ f6_) | ((with_reducible refine gate_dst (N := 43) rfl ?_); refine bxL 26 #[(.int .i64 0), (.int .i64 0), (.slice none 0 0)] HS ?_; clear HS; intro g_se w1 hg_se HS) | ((with_reducible refine gate_store (t := 26) (p := 43) rfl ?_); refine stL HS 0 0 #[.int .i64 sd, .int .i64 sn, .slice C34 sl.length e34] rfl rfl rfl rfl rfl ?_; clear HS; intro w1 HS))
            go_ret
            exact ⟨rfl, (HS.out.sel [] (by decide)).below⟩
        · obtain ⟨rfl, rfl, rfl, r4⟩ : md = 0 ∧ mn = 0 ∧ ml = [] ∧ mc = cm := by have h3 := HM.out.symm.trans he; injection h3 with a1 h3; injection h3 with a2 h3; injection h3 with a3 a4; exact ⟨a1, a2, a3, a4⟩
          have hmb : (mc != 0) = true := by rw [r4]; simpa using hcm
          clear he hcm
          clear f1_ f2_ f3_ f4_
          have f1_ := HS.out.c 18 0 (v := .int .i64 0) rfl rfl
          have f2_ := HS.out.c 18 1 (v := .int .i64 0) rfl rfl
          have f3_ := HS.out.c 18 2 (v := .slice C1 ([] : Ts).length e1) rfl rfl
          go_wp2_with (first | (go_at_call 19; refine (lawNone9 _ C1 e1).mono ?_; rintro e_ w1 ⟨rfl, hb⟩; replace HS := sB HS hb; clear hb f1_ f2_ f3_))
          go_ret
          exact ⟨rfl, (HS.out.sel [] (by decide)).below⟩
end Go.Proofs.Ytibjkjhpfmmjoaa.H



namespace Go.Proofs.Ytibjkjhpfmmjoaa.H
open Go.RowKit Go.ChangeShapes Go.ChangeAt Go.Joins Go.Deep Go.ChangeMaps Go.Proofs.YtibjkjhpfmmjoaaW.PrintWords Go.Proofs.YtibjkjhpfmmjoaaW.PrintLast Go.Proofs.YtibjkjhpfmmjoaaW.PrintMore Go.Proofs.Ytibjkjhpfmmjoaa.M
set_option linter.unusedVariables false
set_option maxRecDepth 100000
theorem opensQ_byte {P : Program} {t : TypeId} (ht : P.underlying t = some (.int .u8)) : OpensQ P (Kd.int .u8) t (fun x => 0 ≤ x ∧ x < 256) := fun H enc w fuel cs x h => by
  obtain ⟨n, hn, _, hw⟩ := DataW.trod_int ht h
  refine ⟨n, ?_, hn⟩
  simp only [Lit.wf, Bool.and_eq_true, decide_eq_true_eq] at hw
  have h1 : IntKind.u8.min = 0 := by decide
  have h2 : IntKind.u8.max = 255 := by decide
  rw [h1, h2] at hw
  omega
theorem openBytes {H : Type} {enc : TypeId × Value → H} {W : World} {r : Reach} {b0 : Nat} {v : Value} {dd : DataW H} {p : List MemPlace} (hval : Value.okWide Try.prog W r b0 22 v) (h : DataW.Trod enc Try.prog W 0 (fun _ => true) true 22 v dd p) :
    ∃ A c, ∃ l : List Int, v = .slice A l.length c ∧ (∀ x ∈ l, 0 ≤ x ∧ x < 256) ∧ (Kd.int .u8).C W A l.length l := by
  obtain ⟨A, n, c, rfl⟩ := Go.WideShapes.okWide_slice Try.underlying22 hval
  obtain ⟨fuel, hf⟩ := h
  have ho : OpensQ Try.prog (Kd.slice 5 (Kd.int .u8)) 22 (fun l => ∀ a ∈ l, 0 ≤ a ∧ a < 256) := opensQ_slice Try.underlying22 (by kernel_rfl) (opensQ_byte Try.underlying5)
  obtain ⟨l, hq, A', c', e1, hl, hr⟩ := ho _ _ _ _ _ _ hf
  have e2 : Value.slice A n c = .slice A' l.length c' := by simpa [Value.cells] using e1
  injection e2 with e3 e4 e5
  subst e3 e4 e5
  exact ⟨A, c, l, rfl, hq, hr⟩
end Go.Proofs.Ytibjkjhpfmmjoaa.H


