/- ScaleSeries: what the program and the reference return. Conditions: the bounds that stand in each statement. -/
import Derived.Test.YtcklblagklojhaaKScale
namespace Go.Proofs.Ytcklblagklojhaa.M
theorem isTs_small {d n : Nat} {l : Ts} (h : isTs d n l = true) : ∀ t ∈ l, small t.2 := fun t ht => fr_small (isTm_fr ((isTs_iff.1 h).1 t ht)).1
theorem scale_len {d n : Int} {l : Ts} {x y : Int} : (scaleR d n l x y).2.2.1.length ≤ 1048576 := by
  unfold scaleR
  split
  · rename_i h
    split
    · rename_i hf
      obtain ⟨⟨h1, h2⟩, ⟨h3, h4⟩, _⟩ := lev_iff.1 (isS_l h)
      exact resO_len (by omega) (by omega) (scale_rel (by omega) (isS_t h) hf)
    · show (0 : Nat) ≤ _; decide
  · show (0 : Nat) ≤ _; decide
end Go.Proofs.Ytcklblagklojhaa.M
namespace Go.Proofs.Ytcklblagklojhaa.H
open Go.RowKit Go.Proofs.YtcklblagklojhaaW.PrintWords Go.Proofs.YtcklblagklojhaaW.PrintLast Go.Proofs.YtcklblagklojhaaW.PrintMore Go.Proofs.Ytcklblagklojhaa.M
attribute [local go_sem] max2_int min2_int max_two min_two max_three min_three max_four min_four resQ
set_option linter.unusedVariables false
set_option linter.unusedSimpArgs false
set_option maxRecDepth 100000
set_option maxHeartbeats 8000000 in
theorem specScaleSeries (d n : Int) (A : Option Addr) (c : Nat) (l : Ts) (x y : Int) (w : World) (hr : KT.C w A l.length l) (hc : l.length ≤ c) (hb : bnd l = true) :
    Calls Try.prog 59 #[.agg #[.int .i64 d, .int .i64 n, .slice A l.length c], .agg #[.int .i64 x, .int .i64 y]] w (RetS w (scaleR d n l x y)) := by
  have HR := Aside0.mk hr
  have HB := Aside0.mk hb
  have HS := Aside0.mk (Sep.refl w)
  clear hr hb
  unfold scaleR
  cases h : isS d n l with
  | false =>
    go_enter Try.func59, Try.ntmps59
    go_wp2_with (first | ((with_reducible refine gate_dst (N := 2) rfl ?_); refine wpList_stp (fun K hK => ?_); refine stp_box (by rfl) HS (cs := #[.int .i64 d, .int .i64 n, .slice A l.length c]) (t := 32) (by first | (go_simp; done) | (go_simp; rfl)) ?_; clear HS; intro g_p w1 hg_p HS; refine hK _ _ ?_; clear hK K) | ((with_reducible refine gate_dst (N := 3) rfl ?_); refine wpList_stp (fun K hK => ?_); refine stp_box (by rfl) HS (cs := #[.int .i64 x, .int .i64 y]) (t := 24) (by first | (go_simp; done) | (go_simp; rfl)) ?_; clear HS; intro g_a w1 hg_a HS; refine hK _ _ ?_; clear hK K) | ((with_reducible refine gate_dst (N := 4) rfl ?_); refine wpList_stp (fun K hK => ?_); refine stp_box (by rfl) HS (cs := #[(.int .i64 0), (.int .i64 0), (.slice none 0 0)]) (t := 32) (by first | (go_simp; done) | (go_simp; rfl)) ?_; clear HS; intro g_r w1 hg_r HS; refine hK _ _ ?_; clear hK K; have f1_ := HS.out.c 2 0 (v := .int .i64 d) rfl rfl; have f2_ := HS.out.c 2 1 (v := .int .i64 n) rfl rfl; have f3_ := HS.out.c 2 2 (v := .slice A l.length c) rfl rfl) | (go_at_call 109; refine (specIs d n A c l _ (HS.out.oldC HR.out) hc HB.out).mono ?_; rintro e_ w1 ⟨rfl, hb⟩; have n_ := Aside0.mk (HS.out.call hb); clear HS f1_ f2_ f3_ hb; have HS := n_; clear n_) | ((with_reducible refine gate_store (t := 32) (p := 4) rfl ?_); refine wpList_stp (fun K hK => ?_); refine stp_set (by rfl) rfl rfl HS 0 0 (cs' := #[(.int .i64 0), (.int .i64 0), (.slice none 0 0)]) rfl rfl rfl (by kernel_rfl) rfl rfl ?_; clear HS; intro w1 HS; simp only [List.set_cons_zero, List.set_cons_succ] at HS; refine hK _ _ ?_; clear hK K))
    refine bodyPost_ret (results_cell_tmp_row rfl _ _ g_r 32 #[(.int .i64 0), (.int .i64 0), (.slice none 0 0)] (0, 0) _ rfl (HS.out.at (i := 0) rfl) Try.underlying32 rfl (by kernel_rfl)) rfl ?_
    exact ⟨none, 0, rfl, nilS (HS.out.sel [] (by decide))⟩
  | true =>
    cases hf : isFr x y with
    | false =>
      go_enter Try.func59, Try.ntmps59
      go_wp2_with (first | ((with_reducible refine gate_dst (N := 2) rfl ?_); refine wpList_stp (fun K hK => ?_); refine stp_box (by rfl) HS (cs := #[.int .i64 d, .int .i64 n, .slice A l.length c]) (t := 32) (by first | (go_simp; done) | (go_simp; rfl)) ?_; clear HS; intro g_p w1 hg_p HS; refine hK _ _ ?_; clear hK K) | ((with_reducible refine gate_dst (N := 3) rfl ?_); refine wpList_stp (fun K hK => ?_); refine stp_box (by rfl) HS (cs := #[.int .i64 x, .int .i64 y]) (t := 24) (by first | (go_simp; done) | (go_simp; rfl)) ?_; clear HS; intro g_a w1 hg_a HS; refine hK _ _ ?_; clear hK K) | ((with_reducible refine gate_dst (N := 4) rfl ?_); refine wpList_stp (fun K hK => ?_); refine stp_box (by rfl) HS (cs := #[(.int .i64 0), (.int .i64 0), (.slice none 0 0)]) (t := 32) (by first | (go_simp; done) | (go_simp; rfl)) ?_; clear HS; intro g_r w1 hg_r HS; refine hK _ _ ?_; clear hK K; have f1_ := HS.out.c 2 0 (v := .int .i64 d) rfl rfl; have f2_ := HS.out.c 2 1 (v := .int .i64 n) rfl rfl; have f3_ := HS.out.c 2 2 (v := .slice A l.length c) rfl rfl) | (go_at_call 109; refine (specIs d n A c l _ (HS.out.oldC HR.out) hc HB.out).mono ?_; rintro e_ w1 ⟨rfl, hb⟩; have n_ := Aside0.mk (HS.out.call hb); clear HS f1_ f2_ f3_ hb; have HS := n_; clear n_; have f1_ := HS.out.c 1 0 (v := .int .i64 x) rfl rfl; have f2_ := HS.out.c 1 1 (v := .int .i64 y) rfl rfl) | (go_at_call 91; refine (specIsFrac x y _).mono ?_; rintro e_ w1 ⟨rfl, hb⟩; have n_ := Aside0.mk (HS.out.call hb); clear HS f1_ f2_ hb; have HS := n_; clear n_) | ((with_reducible refine gate_store (t := 32) (p := 4) rfl ?_); refine wpList_stp (fun K hK => ?_); refine stp_set (by rfl) rfl rfl HS 0 0 (cs' := #[(.int .i64 0), (.int .i64 0), (.slice none 0 0)]) rfl rfl rfl (by kernel_rfl) rfl rfl ?_; clear HS; intro w1 HS; simp only [List.set_cons_zero, List.set_cons_succ] at HS; refine hK _ _ ?_; clear hK K))
      refine bodyPost_ret (results_cell_tmp_row rfl _ _ g_r 32 #[(.int .i64 0), (.int .i64 0), (.slice none 0 0)] (0, 0) _ rfl (HS.out.at (i := 0) rfl) Try.underlying32 rfl (by kernel_rfl)) rfl ?_
      exact ⟨none, 0, rfl, nilS (HS.out.sel [] (by decide))⟩
    | true =>
      have HP := Aside0.mk (fun W k => specScale d n A c l x y W k HB.out (isTs_small (isS_t h)) (fr_small hf))
      obtain ⟨o, ho⟩ : ∃ o, o = scS l (x, y) := ⟨_, rfl⟩
      rw [← ho] at HP
      rw [← ho]
      clear ho
      cases o with
      | none =>
        go_enter Try.func59, Try.ntmps59
        go_wp2_with (first | ((with_reducible refine gate_dst (N := 2) rfl ?_); refine wpList_stp (fun K hK => ?_); refine stp_box (by rfl) HS (cs := #[.int .i64 d, .int .i64 n, .slice A l.length c]) (t := 32) (by first | (go_simp; done) | (go_simp; rfl)) ?_; clear HS; intro g_p w1 hg_p HS; refine hK _ _ ?_; clear hK K) | ((with_reducible refine gate_dst (N := 3) rfl ?_); refine wpList_stp (fun K hK => ?_); refine stp_box (by rfl) HS (cs := #[.int .i64 x, .int .i64 y]) (t := 24) (by first | (go_simp; done) | (go_simp; rfl)) ?_; clear HS; intro g_a w1 hg_a HS; refine hK _ _ ?_; clear hK K) | ((with_reducible refine gate_dst (N := 4) rfl ?_); refine wpList_stp (fun K hK => ?_); refine stp_box (by rfl) HS (cs := #[(.int .i64 0), (.int .i64 0), (.slice none 0 0)]) (t := 32) (by first | (go_simp; done) | (go_simp; rfl)) ?_; clear HS; intro g_r w1 hg_r HS; refine hK _ _ ?_; clear hK K; have f1_ := HS.out.c 2 0 (v := .int .i64 d) rfl rfl; have f2_ := HS.out.c 2 1 (v := .int .i64 n) rfl rfl; have f3_ := HS.out.c 2 2 (v := .slice A l.length c) rfl rfl) | (go_at_call 109; refine (specIs d n A c l _ (HS.out.oldC HR.out) hc HB.out).mono ?_; rintro e_ w1 ⟨rfl, hb⟩; have n_ := Aside0.mk (HS.out.call hb); clear HS f1_ f2_ f3_ hb; have HS := n_; clear n_; have f1_ := HS.out.c 1 0 (v := .int .i64 x) rfl rfl; have f2_ := HS.out.c 1 1 (v := .int .i64 y) rfl rfl) | (go_at_call 91; refine (specIsFrac x y _).mono ?_; rintro e_ w1 ⟨rfl, hb⟩; have n_ := Aside0.mk (HS.out.call hb); clear HS f1_ f2_ hb; have HS := n_; clear n_; have f1_ := HS.out.c 2 0 (v := .int .i64 d) rfl rfl; have f2_ := HS.out.c 2 1 (v := .int .i64 n) rfl rfl; have f3_ := HS.out.c 2 2 (v := .slice A l.length c) rfl rfl; have f4_ := HS.out.c 1 0 (v := .int .i64 x) rfl rfl; have f5_ := HS.out.c 1 1 (v := .int .i64 y) rfl rfl) | (go_at_call 139; refine (HP.out _ (HS.out.oldC HR.out)).mono ?_; rintro e_ w1 ⟨B, b, rfl, hs⟩; have n_ := Aside0.mk (HS.out.new hs); clear HS f1_ f2_ f3_ f4_ f5_ hs; have HS := n_; clear n_; simp only [List.cons_append, List.nil_append] at HS) | ((with_reducible refine gate_dst (N := 6) rfl ?_); refine wpList_stp (fun K hK => ?_); refine stp_box (by rfl) HS (cs := #[(.int .i64 0), (.int .i64 0), (.slice none 0 0)]) (t := 32) (by first | (go_simp; done) | (go_simp; rfl)) ?_; clear HS; intro g_q w1 hg_q HS; refine hK _ _ ?_; clear hK K) | ((with_reducible refine gate_store (t := 32) (p := 6) rfl ?_); refine wpList_stp (fun K hK => ?_); refine stp_set (by rfl) rfl rfl HS 0 0 (cs' := #[.int .i64 0, .int .i64 0, .slice B ([] : Ts).length b]) rfl rfl rfl (by kernel_rfl) rfl rfl ?_; clear HS; intro w1 HS; simp only [List.set_cons_zero, List.set_cons_succ] at HS; refine hK _ _ ?_; clear hK K) | ((with_reducible refine gate_store (t := 32) (p := 4) rfl ?_); refine wpList_stp (fun K hK => ?_); refine stp_set (by rfl) rfl rfl HS 2 0 (cs' := #[(.int .i64 0), (.int .i64 0), (.slice none 0 0)]) rfl rfl rfl (by kernel_rfl) rfl rfl ?_; clear HS; intro w1 HS; simp only [List.set_cons_zero, List.set_cons_succ] at HS; refine hK _ _ ?_; clear hK K))
        refine bodyPost_ret (results_cell_tmp_row rfl _ _ g_r 32 #[(.int .i64 0), (.int .i64 0), (.slice none 0 0)] (0, 0) _ rfl (HS.out.at (i := 2) rfl) Try.underlying32 rfl (by kernel_rfl)) rfl ?_
        exact ⟨none, 0, rfl, nilS (HS.out.sel [] (by decide))⟩
      | some z =>
        go_enter Try.func59, Try.ntmps59
        go_wp2_with (first | ((with_reducible refine gate_dst (N := 2) rfl ?_); refine wpList_stp (fun K hK => ?_); refine stp_box (by rfl) HS (cs := #[.int .i64 d, .int .i64 n, .slice A l.length c]) (t := 32) (by first | (go_simp; done) | (go_simp; rfl)) ?_; clear HS; intro g_p w1 hg_p HS; refine hK _ _ ?_; clear hK K) | ((with_reducible refine gate_dst (N := 3) rfl ?_); refine wpList_stp (fun K hK => ?_); refine stp_box (by rfl) HS (cs := #[.int .i64 x, .int .i64 y]) (t := 24) (by first | (go_simp; done) | (go_simp; rfl)) ?_; clear HS; intro g_a w1 hg_a HS; refine hK _ _ ?_; clear hK K) | ((with_reducible refine gate_dst (N := 4) rfl ?_); refine wpList_stp (fun K hK => ?_); refine stp_box (by rfl) HS (cs := #[(.int .i64 0), (.int .i64 0), (.slice none 0 0)]) (t := 32) (by first | (go_simp; done) | (go_simp; rfl)) ?_; clear HS; intro g_r w1 hg_r HS; refine hK _ _ ?_; clear hK K; have f1_ := HS.out.c 2 0 (v := .int .i64 d) rfl rfl; have f2_ := HS.out.c 2 1 (v := .int .i64 n) rfl rfl; have f3_ := HS.out.c 2 2 (v := .slice A l.length c) rfl rfl) | (go_at_call 109; refine (specIs d n A c l _ (HS.out.oldC HR.out) hc HB.out).mono ?_; rintro e_ w1 ⟨rfl, hb⟩; have n_ := Aside0.mk (HS.out.call hb); clear HS f1_ f2_ f3_ hb; have HS := n_; clear n_; have f1_ := HS.out.c 1 0 (v := .int .i64 x) rfl rfl; have f2_ := HS.out.c 1 1 (v := .int .i64 y) rfl rfl) | (go_at_call 91; refine (specIsFrac x y _).mono ?_; rintro e_ w1 ⟨rfl, hb⟩; have n_ := Aside0.mk (HS.out.call hb); clear HS f1_ f2_ hb; have HS := n_; clear n_; have f1_ := HS.out.c 2 0 (v := .int .i64 d) rfl rfl; have f2_ := HS.out.c 2 1 (v := .int .i64 n) rfl rfl; have f3_ := HS.out.c 2 2 (v := .slice A l.length c) rfl rfl; have f4_ := HS.out.c 1 0 (v := .int .i64 x) rfl rfl; have f5_ := HS.out.c 1 1 (v := .int .i64 y) rfl rfl) | (go_at_call 139; refine (HP.out _ (HS.out.oldC HR.out)).mono ?_; rintro e_ w1 ⟨B, b, rfl, hs⟩; have n_ := Aside0.mk (HS.out.new hs); clear HS f1_ f2_ f3_ f4_ f5_ hs; have HS := n_; clear n_; simp only [List.cons_append, List.nil_append] at HS) | ((with_reducible refine gate_dst (N := 6) rfl ?_); refine wpList_stp (fun K hK => ?_); refine stp_box (by rfl) HS (cs := #[(.int .i64 0), (.int .i64 0), (.slice none 0 0)]) (t := 32) (by first | (go_simp; done) | (go_simp; rfl)) ?_; clear HS; intro g_q w1 hg_q HS; refine hK _ _ ?_; clear hK K) | ((with_reducible refine gate_store (t := 32) (p := 6) rfl ?_); refine wpList_stp (fun K hK => ?_); refine stp_set (by rfl) rfl rfl HS 0 0 (cs' := #[.int .i64 d, .int .i64 n, .slice B z.length b]) rfl rfl rfl (by kernel_rfl) rfl rfl ?_; clear HS; intro w1 HS; simp only [List.set_cons_zero, List.set_cons_succ] at HS; refine hK _ _ ?_; clear hK K; have f1_ := HS.out.c 0 0 (v := .int .i64 d) rfl rfl; have f2_ := HS.out.c 0 1 (v := .int .i64 n) rfl rfl; have f3_ := HS.out.c 0 2 (v := .slice B z.length b) rfl rfl) | ((with_reducible refine gate_store (t := 32) (p := 4) rfl ?_); refine wpList_stp (fun K hK => ?_); refine stp_set (by rfl) rfl rfl HS 2 0 (cs' := #[.int .i64 d, .int .i64 n, .slice B z.length b]) rfl rfl rfl (by kernel_rfl) rfl rfl ?_; clear HS f1_ f2_ f3_; intro w1 HS; simp only [List.set_cons_zero, List.set_cons_succ] at HS; refine hK _ _ ?_; clear hK K))
        refine bodyPost_ret (results_cell_tmp_row rfl _ _ g_r 32 #[.int .i64 d, .int .i64 n, .slice B z.length b] (0, 0) _ rfl (HS.out.at (i := 2) rfl) Try.underlying32 rfl (by kernel_rfl)) rfl ?_
        exact ⟨B, b, rfl, HS.out.sel [1] (by decide)⟩
set_option maxHeartbeats 8000000 in
theorem implScaleSeries (d n : Int) (A : Option Addr) (c : Nat) (l : Ts) (x y : Int) (w : World) (hr : KT.C w A l.length l) (hc : l.length ≤ c) (hb : bnd l = true) :
    Calls Try.prog 60 #[.agg #[.int .i64 d, .int .i64 n, .slice A l.length c], .agg #[.int .i64 x, .int .i64 y]] w (RetS w (scaleR d n l x y)) := by
  have HR := Aside0.mk hr
  have HB := Aside0.mk hb
  have HS := Aside0.mk (Sep.refl w)
  clear hr hb
  unfold scaleR
  cases h : isS d n l with
  | false =>
    go_enter Try.func60, Try.ntmps60
    go_wp2_with (first | ((with_reducible refine gate_dst (N := 2) rfl ?_); refine wpList_stp (fun K hK => ?_); refine stp_box (by rfl) HS (cs := #[.int .i64 d, .int .i64 n, .slice A l.length c]) (t := 32) (by first | (go_simp; done) | (go_simp; rfl)) ?_; clear HS; intro g_p w1 hg_p HS; refine hK _ _ ?_; clear hK K) | ((with_reducible refine gate_dst (N := 3) rfl ?_); refine wpList_stp (fun K hK => ?_); refine stp_box (by rfl) HS (cs := #[.int .i64 x, .int .i64 y]) (t := 24) (by first | (go_simp; done) | (go_simp; rfl)) ?_; clear HS; intro g_a w1 hg_a HS; refine hK _ _ ?_; clear hK K) | ((with_reducible refine gate_dst (N := 4) rfl ?_); refine wpList_stp (fun K hK => ?_); refine stp_box (by rfl) HS (cs := #[(.int .i64 0), (.int .i64 0), (.slice none 0 0)]) (t := 32) (by first | (go_simp; done) | (go_simp; rfl)) ?_; clear HS; intro g_r w1 hg_r HS; refine hK _ _ ?_; clear hK K; have f1_ := HS.out.c 2 0 (v := .int .i64 d) rfl rfl; have f2_ := HS.out.c 2 1 (v := .int .i64 n) rfl rfl; have f3_ := HS.out.c 2 2 (v := .slice A l.length c) rfl rfl) | (go_at_call 42; refine (implIs d n A c l _ (HS.out.oldC HR.out) hc HB.out).mono ?_; rintro e_ w1 ⟨rfl, hb⟩; have n_ := Aside0.mk (HS.out.call hb); clear HS f1_ f2_ f3_ hb; have HS := n_; clear n_) | ((with_reducible refine gate_store (t := 32) (p := 4) rfl ?_); refine wpList_stp (fun K hK => ?_); refine stp_set (by rfl) rfl rfl HS 0 0 (cs' := #[(.int .i64 0), (.int .i64 0), (.slice none 0 0)]) rfl rfl rfl (by kernel_rfl) rfl rfl ?_; clear HS; intro w1 HS; simp only [List.set_cons_zero, List.set_cons_succ] at HS; refine hK _ _ ?_; clear hK K))
    refine bodyPost_ret (results_cell_tmp_row rfl _ _ g_r 32 #[(.int .i64 0), (.int .i64 0), (.slice none 0 0)] (0, 0) _ rfl (HS.out.at (i := 0) rfl) Try.underlying32 rfl (by kernel_rfl)) rfl ?_
    exact ⟨none, 0, rfl, nilS (HS.out.sel [] (by decide))⟩
  | true =>
    cases hf : isFr x y with
    | false =>
      go_enter Try.func60, Try.ntmps60
      go_wp2_with (first | ((with_reducible refine gate_dst (N := 2) rfl ?_); refine wpList_stp (fun K hK => ?_); refine stp_box (by rfl) HS (cs := #[.int .i64 d, .int .i64 n, .slice A l.length c]) (t := 32) (by first | (go_simp; done) | (go_simp; rfl)) ?_; clear HS; intro g_p w1 hg_p HS; refine hK _ _ ?_; clear hK K) | ((with_reducible refine gate_dst (N := 3) rfl ?_); refine wpList_stp (fun K hK => ?_); refine stp_box (by rfl) HS (cs := #[.int .i64 x, .int .i64 y]) (t := 24) (by first | (go_simp; done) | (go_simp; rfl)) ?_; clear HS; intro g_a w1 hg_a HS; refine hK _ _ ?_; clear hK K) | ((with_reducible refine gate_dst (N := 4) rfl ?_); refine wpList_stp (fun K hK => ?_); refine stp_box (by rfl) HS (cs := #[(.int .i64 0), (.int .i64 0), (.slice none 0 0)]) (t := 32) (by first | (go_simp; done) | (go_simp; rfl)) ?_; clear HS; intro g_r w1 hg_r HS; refine hK _ _ ?_; clear hK K; have f1_ := HS.out.c 2 0 (v := .int .i64 d) rfl rfl; have f2_ := HS.out.c 2 1 (v := .int .i64 n) rfl rfl; have f3_ := HS.out.c 2 2 (v := .slice A l.length c) rfl rfl) | (go_at_call 42; refine (implIs d n A c l _ (HS.out.oldC HR.out) hc HB.out).mono ?_; rintro e_ w1 ⟨rfl, hb⟩; have n_ := Aside0.mk (HS.out.call hb); clear HS f1_ f2_ f3_ hb; have HS := n_; clear n_; have f1_ := HS.out.c 1 0 (v := .int .i64 x) rfl rfl; have f2_ := HS.out.c 1 1 (v := .int .i64 y) rfl rfl) | (go_at_call 137; refine (implIsFraction x y _).mono ?_; rintro e_ w1 ⟨rfl, hb⟩; have n_ := Aside0.mk (HS.out.call hb); clear HS f1_ f2_ hb; have HS := n_; clear n_) | ((with_reducible refine gate_store (t := 32) (p := 4) rfl ?_); refine wpList_stp (fun K hK => ?_); refine stp_set (by rfl) rfl rfl HS 0 0 (cs' := #[(.int .i64 0), (.int .i64 0), (.slice none 0 0)]) rfl rfl rfl (by kernel_rfl) rfl rfl ?_; clear HS; intro w1 HS; simp only [List.set_cons_zero, List.set_cons_succ] at HS; refine hK _ _ ?_; clear hK K))
      refine bodyPost_ret (results_cell_tmp_row rfl _ _ g_r 32 #[(.int .i64 0), (.int .i64 0), (.slice none 0 0)] (0, 0) _ rfl (HS.out.at (i := 0) rfl) Try.underlying32 rfl (by kernel_rfl)) rfl ?_
      exact ⟨none, 0, rfl, nilS (HS.out.sel [] (by decide))⟩
    | true =>
      have HX := Aside0.mk (isS_t h)
      have hlev := isS_l h
      obtain ⟨d, n, rfl, rfl, hd1, hd3, hn1, hn5⟩ := lev_nat hlev
      have HL := Aside0.mk hlev
      clear hlev
      rw [Int.toNat_natCast, Int.toNat_natCast] at HX
      have hg : good (mapT d n (fun s => mul (co l s) (x, y)) false (nW d n)).1 := mapT_good (fun s c h => mul_fr h) false _
      have HE := Aside0.mk (Rel.told (by omega) hg (scale_rel (by omega) HX.out hf))
      have CS := fun g v W h1 h2 => implScaled g v d n false (co l) (x, y) W HL.out h1 h2 (good_co HX.out) hf
      have HC := Aside0.mk CS
      clear CS hg
      obtain ⟨F, hF⟩ : ∃ F, F = mapT d n (fun s => mul (co l s) (x, y)) false (nW d n) := ⟨_, rfl⟩
      rw [← hF] at HE HC
      clear hF
      have HTo := Aside0.mk (fun g v W h1 h2 => HE.out ▸ implTold g v d n F.2 F.1 W HL.out h1 h2)
      clear HE
      obtain ⟨o, ho⟩ : ∃ o, o = scS l (x, y) := ⟨_, rfl⟩
      rw [← ho] at HTo
      rw [← ho]
      clear ho
      go_enter Try.func60, Try.ntmps60
      go_wp2_with (first | ((with_reducible refine gate_dst (N := 2) rfl ?_); refine wpList_stp (fun K hK => ?_); refine stp_box (by rfl) HS (cs := #[.int .i64 (d : Int), .int .i64 (n : Int), .slice A l.length c]) (t := 32) (by first | (go_simp; done) | (go_simp; rfl)) ?_; clear HS; intro g_p w1 hg_p HS; refine hK _ _ ?_; clear hK K) | ((with_reducible refine gate_dst (N := 3) rfl ?_); refine wpList_stp (fun K hK => ?_); refine stp_box (by rfl) HS (cs := #[.int .i64 x, .int .i64 y]) (t := 24) (by first | (go_simp; done) | (go_simp; rfl)) ?_; clear HS; intro g_a w1 hg_a HS; refine hK _ _ ?_; clear hK K) | ((with_reducible refine gate_dst (N := 4) rfl ?_); refine wpList_stp (fun K hK => ?_); refine stp_box (by rfl) HS (cs := #[(.int .i64 0), (.int .i64 0), (.slice none 0 0)]) (t := 32) (by first | (go_simp; done) | (go_simp; rfl)) ?_; clear HS; intro g_r w1 hg_r HS; refine hK _ _ ?_; clear hK K; have f1_ := HS.out.c 2 0 (v := .int .i64 (d : Int)) rfl rfl; have f2_ := HS.out.c 2 1 (v := .int .i64 (n : Int)) rfl rfl; have f3_ := HS.out.c 2 2 (v := .slice A l.length c) rfl rfl) | (go_at_call 42; refine (implIs d n A c l _ (HS.out.oldC HR.out) hc HB.out).mono ?_; rintro e_ w1 ⟨rfl, hb⟩; have n_ := Aside0.mk (HS.out.call hb); clear HS f1_ f2_ f3_ hb; have HS := n_; clear n_; have f1_ := HS.out.c 1 0 (v := .int .i64 x) rfl rfl; have f2_ := HS.out.c 1 1 (v := .int .i64 y) rfl rfl) | (go_at_call 137; refine (implIsFraction x y _).mono ?_; rintro e_ w1 ⟨rfl, hb⟩; have n_ := Aside0.mk (HS.out.call hb); clear HS f1_ f2_ hb; have HS := n_; clear n_))
      have n_ := Aside0.mk HS.out.drew
      clear HS
      have HS := n_
      clear n_
      refine plan_start (.t 0 (.t 2 (.e 1 (.d 3 (.d 4 (.p 5 (.p 6 (.d 7 (.p 8 .done))))))))) (fun w' => w'.cell? ⟨g_p, 0, none⟩ = some (.int .i64 (d : Int)) ∧ w'.cell? ⟨g_p, 1, none⟩ = some (.int .i64 (n : Int)) ∧ w'.cell? ⟨g_p, 2, none⟩ = some (.slice A l.length c) ∧ w'.cell? ⟨g_a, 0, none⟩ = some (.int .i64 x) ∧ w'.cell? ⟨g_a, 1, none⟩ = some (.int .i64 y)) [3, 4, 7] (by kernel_rfl) (by kernel_rfl) (fun c_ a_ d_ v_ w_ h_ => by cases d_ <;> exact h_) ⟨HS.out.c 2 0 (v := .int .i64 (d : Int)) rfl rfl, HS.out.c 2 1 (v := .int .i64 (n : Int)) rfl rfl, HS.out.c 2 2 (v := .slice A l.length c) rfl rfl, HS.out.c 1 0 (v := .int .i64 x) rfl rfl, HS.out.c 1 1 (v := .int .i64 y) rfl rfl⟩ (fun hHeld => ?_)
      repeat (first | ((with_reducible refine gate_p ?_); refine run_p (v := ?_) rfl rfl (Or.inl ⟨by rfl, ?_⟩) (a' := ?_) ?_ ?_; rotate_left; (· (intro w'; first | (go_simp; with_reducible rfl) | (go_simp; done))); rotate_left; (· first | (simp only [Act.put, List.setIfInBounds_toArray, List.set_cons_zero, List.set_cons_succ, i64_w, i32_w]; rfl) | simp only [Act.put, List.setIfInBounds_toArray, List.set_cons_zero, List.set_cons_succ, i64_w, i32_w])) | ((with_reducible refine gate_t ?_); refine run_t (v := ?_) rfl rfl hHeld (Or.inl ⟨by rfl, ?_⟩) (a' := ?_) ?_ ?_; rotate_left; (· (intro w' hS_; first | (go_simp; with_reducible rfl) | (go_simp; done))); rotate_left; (· first | (simp only [Act.put, List.setIfInBounds_toArray, List.set_cons_zero, List.set_cons_succ, i64_w, i32_w]; rfl) | simp only [Act.put, List.setIfInBounds_toArray, List.set_cons_zero, List.set_cons_succ, i64_w, i32_w])))
      refine run_e rfl (fun K hK => ?_)
      refine goes_ Try.func126 (by kernel_rfl) rfl #[.agg #[.int .i64 (d : Int), .int .i64 (n : Int), .slice A l.length c]] (by rfl) rfl rfl (by simp only [List.map_toArray, List.map_cons, List.map_nil]; rfl) ?_
      refine (implOpen d n A c l _ HL.out (HS.out.oldC HR.out) HX.out).mono ?_
      rintro e_ w1 ⟨g, v, rfl, hs⟩
      refine ⟨_, rfl, ?_⟩
      have n_ := Aside0.mk (HS.out.new hs)
      clear HS hs
      have HS := n_
      clear n_
      simp only [List.cons_append, List.nil_append] at HS
      refine goE hK ⟨HS.out.c 4 0 (v := .int .i64 (d : Int)) rfl rfl, HS.out.c 4 1 (v := .int .i64 (n : Int)) rfl rfl, HS.out.c 4 2 (v := .slice A l.length c) rfl rfl, HS.out.c 3 0 (v := .int .i64 x) rfl rfl, HS.out.c 3 1 (v := .int .i64 y) rfl rfl⟩ (a' := ?_) ?_ (fun hHeld => ?_)
      rotate_left
      · first | (simp only [Act.put, List.setIfInBounds_toArray, List.set_cons_zero, List.set_cons_succ, i64_w, i32_w]; rfl) | simp only [Act.put, List.setIfInBounds_toArray, List.set_cons_zero, List.set_cons_succ, i64_w, i32_w]
      clear hK K
      refine run_d rfl (fun K hK => ?_)
      refine goes_ Try.func140 (by kernel_rfl) rfl #[(.pointer (some ⟨g, 0, none⟩)), .agg #[.int .i64 x, .int .i64 y]] (by rfl) rfl rfl (by simp only [List.map_toArray, List.map_cons, List.map_nil]; rfl) ?_
      refine (HC.out g v _ (HS.out.at (i := 0) rfl) (HS.out.at (i := 1) rfl)).mono ?_
      rintro e_ w1 ⟨g2, v2, rfl, hs⟩
      refine ⟨_, rfl, ?_⟩
      have n_ := Aside0.mk (HS.out.new hs)
      clear HS hs
      have HS := n_
      clear n_
      simp only [List.cons_append, List.nil_append] at HS
      refine goD hK (a' := ?_) ?_ ?_
      rotate_left
      · first | (simp only [Act.put, List.setIfInBounds_toArray, List.set_cons_zero, List.set_cons_succ, i64_w, i32_w]; rfl) | simp only [Act.put, List.setIfInBounds_toArray, List.set_cons_zero, List.set_cons_succ, i64_w, i32_w]
      clear hK K
      refine run_d rfl (fun K hK => ?_)
      refine goes_ Try.func116 (by kernel_rfl) rfl #[(.pointer (some ⟨g2, 0, none⟩))] (by rfl) rfl rfl (by simp only [List.map_toArray, List.map_cons, List.map_nil]; rfl) ?_
      refine (HTo.out g2 v2 _ (HS.out.at (i := 0) rfl) (HS.out.at (i := 1) rfl)).mono ?_
      rintro e_ w1 ⟨B, b, rfl, hs⟩
      refine ⟨_, rfl, ?_⟩
      have n_ := Aside0.mk (HS.out.new hs)
      clear HS hs
      have HS := n_
      clear n_
      simp only [List.cons_append, List.nil_append] at HS
      refine goD hK (a' := ?_) ?_ ?_
      rotate_left
      · first | (simp only [Act.put, List.setIfInBounds_toArray, List.set_cons_zero, List.set_cons_succ, i64_w, i32_w]; rfl) | simp only [Act.put, List.setIfInBounds_toArray, List.set_cons_zero, List.set_cons_succ, i64_w, i32_w]
      clear hK K
      repeat (first | ((with_reducible refine gate_p ?_); refine run_p (v := ?_) rfl rfl (Or.inl ⟨by rfl, ?_⟩) (a' := ?_) ?_ ?_; rotate_left; (· (intro w'; first | (go_simp; with_reducible rfl) | (go_simp; done))); rotate_left; (· first | (simp only [Act.put, List.setIfInBounds_toArray, List.set_cons_zero, List.set_cons_succ, i64_w, i32_w]; rfl) | simp only [Act.put, List.setIfInBounds_toArray, List.set_cons_zero, List.set_cons_succ, i64_w, i32_w])) | ((with_reducible refine gate_t ?_); refine run_t (v := ?_) rfl rfl hHeld (Or.inl ⟨by rfl, ?_⟩) (a' := ?_) ?_ ?_; rotate_left; (· (intro w' hS_; first | (go_simp; with_reducible rfl) | (go_simp; done))); rotate_left; (· first | (simp only [Act.put, List.setIfInBounds_toArray, List.set_cons_zero, List.set_cons_succ, i64_w, i32_w]; rfl) | simp only [Act.put, List.setIfInBounds_toArray, List.set_cons_zero, List.set_cons_succ, i64_w, i32_w])))
      refine run_d rfl (fun K hK => ?_)
      refine stp_set (by rfl) rfl rfl HS 5 0 (cs' := #[.int .i64 (resO d n o).1, .int .i64 (resO d n o).2.1, .slice B (resO d n o).2.2.1.length b]) rfl rfl rfl (by kernel_rfl) rfl rfl ?_
      clear HS
      intro w1 HS
      simp only [List.set_cons_zero, List.set_cons_succ] at HS
      refine goD hK rfl ?_
      clear hK K
      repeat (first | ((with_reducible refine gate_p ?_); refine run_p (v := ?_) rfl rfl (Or.inl ⟨by rfl, ?_⟩) (a' := ?_) ?_ ?_; rotate_left; (· (intro w'; first | (go_simp; with_reducible rfl) | (go_simp; done))); rotate_left; (· first | (simp only [Act.put, List.setIfInBounds_toArray, List.set_cons_zero, List.set_cons_succ, i64_w, i32_w]; rfl) | simp only [Act.put, List.setIfInBounds_toArray, List.set_cons_zero, List.set_cons_succ, i64_w, i32_w])) | ((with_reducible refine gate_t ?_); refine run_t (v := ?_) rfl rfl hHeld (Or.inl ⟨by rfl, ?_⟩) (a' := ?_) ?_ ?_; rotate_left; (· (intro w' hS_; first | (go_simp; with_reducible rfl) | (go_simp; done))); rotate_left; (· first | (simp only [Act.put, List.setIfInBounds_toArray, List.set_cons_zero, List.set_cons_succ, i64_w, i32_w]; rfl) | simp only [Act.put, List.setIfInBounds_toArray, List.set_cons_zero, List.set_cons_succ, i64_w, i32_w])))
      refine run_done ?_
      clear hHeld
      go_wp2
      refine bodyPost_ret (results_cell_tmp_row rfl _ _ g_r 32 #[.int .i64 (resO d n o).1, .int .i64 (resO d n o).2.1, .slice B (resO d n o).2.2.1.length b] (0, 0) _ rfl (HS.out.at (i := 5) rfl) Try.underlying32 rfl (by kernel_rfl)) rfl ?_
      exact ⟨B, b, rfl, HS.out.sel [0] (by decide)⟩
end Go.Proofs.Ytcklblagklojhaa.H

