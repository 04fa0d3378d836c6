/- The laws of CoefficientOf: its call returns true. Conditions: those of arguments that can be read. -/
import Derived.Test.YtcklblagklojhaaKUnit
namespace Go.Proofs.Ytcklblagklojhaa.H
open Go.RowKit Go.Proofs.YtcklblagklojhaaW.PrintWords Go.Proofs.YtcklblagklojhaaW.PrintLast Go.Proofs.YtcklblagklojhaaW.PrintMore Go.Proofs.Ytcklblagklojhaa.M
set_option linter.unusedVariables false
set_option linter.unusedSimpArgs false
set_option maxRecDepth 100000
set_option maxHeartbeats 8000000 in
theorem lawCoefficientOf (d n : Int) (A : Option Addr) (c : Nat) (l : Ts) (s : ByteArray) (w : World) (hl : l.length ≤ c) (hm : ∀ t ∈ l, t.1.size ≤ 9223372036854775807) (hr : KT.C w A l.length l) (hs : s.size ≤ 9223372036854775807) :
    Calls Try.prog 10 #[.agg #[.int .i64 d, .int .i64 n, .slice A l.length c], .string s] w fun e w' => e = .returned (.bool true) ∧ Below w.heap.size w w' := by
  have HR := Aside0.mk hr
  have HM := Aside0.mk hm
  have hlm : l.length ≤ 9223372036854775807 := Kd.C_max hr
  have HS := Aside0.mk (Sep.refl w)
  have hne : ((coefR d n l s).2.2 != (coefR d n l s).2.2) = false := by simp
  clear hr hm
  by_cases hsz : ¬ s.size ≤ 1048576
  · skip
    go_enter Try.func10, Try.ntmps10
    have hsz' : ¬ ((s.size : Int) ≤ 1048576) := by omega
    go_wp2_with (first | ((with_reducible refine gate_dst (N := 2) rfl ?_); refine wpList_stp (fun K hK => ?_); refine stp_box (by rfl) HS (cs := #[.int .i64 d, .int .i64 n, .slice A l.length c]) (t := 40) (by first | (go_simp; done) | (go_simp; rfl)) ?_; clear HS; intro g_a w1 hg_a HS; refine hK _ _ ?_; clear hK K))
    go_ret
    exact ⟨rfl, HS.out.below⟩
  have hsz' : (s.size : Int) ≤ 1048576 := by omega
  go_enter Try.func10, Try.ntmps10
  have tk1_ : True := trivial
  go_wp2_with (first | ((with_reducible refine gate_dst (N := 2) rfl ?_); refine wpList_stp (fun K hK => ?_); refine stp_box (by rfl) HS (cs := #[.int .i64 d, .int .i64 n, .slice A l.length c]) (t := 40) (by first | (go_simp; done) | (go_simp; rfl)) ?_; clear HS; intro g_a w1 hg_a HS; refine hK _ _ ?_; clear hK K; have f1_ := HS.out.c 0 0 (v := .int .i64 d) rfl rfl; have f2_ := HS.out.c 0 1 (v := .int .i64 n) rfl rfl; have f3_ := HS.out.c 0 2 (v := .slice A l.length c) rfl rfl) | (go_at_call 39; refine (lawSzSeries d n A c l 1048576 _ (HS.out.oldC HR.out) hlm HM.out (by omega) (by omega)).mono ?_; rintro e_ w1 ⟨v, rfl, hv1, hv2, hv3, hb⟩; have n_ := Aside0.mk (HS.out.call hb); clear HS f1_ f2_ f3_ hb; have HS := n_; clear n_; have f1_ := HS.out.c 0 0 (v := .int .i64 d) rfl rfl; have f2_ := HS.out.c 0 1 (v := .int .i64 n) rfl rfl; have f3_ := HS.out.c 0 2 (v := .slice A l.length c) rfl rfl) | (go_at_call 41; clear tk1_; refine (lawSeries d n A c l _ (HS.out.oldC HR.out) (bnd_iff.1 (hv3 (by omega))).1).mono ?_; rintro e_ w1 ⟨A1, c1, rfl, hs⟩; have n_ := Aside0.mk (HS.out.new hs); clear HS f1_ f2_ f3_ hs; have HS := n_; clear n_; simp only [List.cons_append, List.nil_append] at HS) | (go_at_call 51; refine (specCoefficientOf d n A1 c1 l s _ (HS.out.reads 0 rfl) (HS.out.cap 0 rfl) (hv3 (by omega)) (by omega)).mono ?_; rintro e_ w1 ⟨rfl, hb⟩; have n_ := Aside0.mk (HS.out.call hb); clear HS hb; have HS := n_; clear n_) | ((with_reducible refine gate_dst (N := 6) rfl ?_); refine wpList_stp (fun K hK => ?_); refine stp_box (by rfl) HS (cs := #[(.int .i64 0), (.int .i64 0)]) (t := 24) (by first | (go_simp; done) | (go_simp; rfl)) ?_; clear HS; intro g_f0 w1 hg_f0 HS; refine hK _ _ ?_; clear hK K) | ((with_reducible refine gate_store (t := 24) (p := 6) rfl ?_); refine wpList_stp (fun K hK => ?_); refine stp_set (by rfl) rfl rfl HS 0 0 (cs' := #[.int .i64 (coefR d n l s).1, .int .i64 (coefR d n l s).2.1]) rfl rfl rfl (by kernel_rfl) rfl rfl ?_; clear HS; intro w1 HS; simp only [List.set_cons_zero, List.set_cons_succ] at HS; refine hK _ _ ?_; clear hK K; have f1_ := HS.out.c 2 0 (v := .int .i64 d) rfl rfl; have f2_ := HS.out.c 2 1 (v := .int .i64 n) rfl rfl; have f3_ := HS.out.c 2 2 (v := .slice A l.length c) rfl rfl) | (go_at_call 41; refine (lawSeries d n A c l _ (HS.out.oldC HR.out) (bnd_iff.1 (hv3 (by omega))).1).mono ?_; rintro e_ w1 ⟨A2, c2, rfl, hs⟩; have n_ := Aside0.mk (HS.out.new hs); clear HS f1_ f2_ f3_ hs; have HS := n_; clear n_; simp only [List.cons_append, List.nil_append] at HS) | ((with_reducible refine gate_dst (N := 8) rfl ?_); refine wpList_stp (fun K hK => ?_); refine stp_box (by rfl) HS (cs := #[(.int .i64 0), (.int .i64 0), (.slice none 0 0)]) (t := 32) (by first | (go_simp; done) | (go_simp; rfl)) ?_; clear HS; intro g_x0 w1 hg_x0 HS; refine hK _ _ ?_; clear hK K) | ((with_reducible refine gate_store (t := 32) (p := 8) rfl ?_); refine wpList_stp (fun K hK => ?_); refine stp_set (by rfl) rfl rfl HS 0 0 (cs' := #[.int .i64 d, .int .i64 n, .slice A2 l.length c2]) rfl rfl rfl (by kernel_rfl) rfl rfl ?_; clear HS; intro w1 HS; simp only [List.set_cons_zero, List.set_cons_succ] at HS; refine hK _ _ ?_; clear hK K; have f1_ := HS.out.c 0 0 (v := .int .i64 d) rfl rfl; have f2_ := HS.out.c 0 1 (v := .int .i64 n) rfl rfl; have f3_ := HS.out.c 0 2 (v := .slice A2 l.length c2) rfl rfl) | (go_at_call 52; refine (implCoefficientOf d n A2 c2 l s _ (HS.out.reads 1 rfl) (HS.out.cap 1 rfl) (hv3 (by omega)) (by omega)).mono ?_; rintro e_ w1 ⟨rfl, hb⟩; have n_ := Aside0.mk (HS.out.call hb); clear HS f1_ f2_ f3_ hb; have HS := n_; clear n_) | ((with_reducible refine gate_dst (N := 9) rfl ?_); refine wpList_stp (fun K hK => ?_); refine stp_box (by rfl) HS (cs := #[(.int .i64 0), (.int .i64 0)]) (t := 24) (by first | (go_simp; done) | (go_simp; rfl)) ?_; clear HS; intro g_f1 w1 hg_f1 HS; refine hK _ _ ?_; clear hK K) | ((with_reducible refine gate_store (t := 24) (p := 9) rfl ?_); refine wpList_stp (fun K hK => ?_); refine stp_set (by rfl) rfl rfl HS 0 0 (cs' := #[.int .i64 (coefR d n l s).1, .int .i64 (coefR d n l s).2.1]) rfl rfl rfl (by kernel_rfl) rfl rfl ?_; clear HS; intro w1 HS; simp only [List.set_cons_zero, List.set_cons_succ] at HS; refine hK _ _ ?_; clear hK K; have f1_ := HS.out.c 0 0 (v := .int .i64 (coefR d n l s).1) rfl rfl; have f2_ := HS.out.c 0 1 (v := .int .i64 (coefR d n l s).2.1) rfl rfl; have f3_ := HS.out.c 3 0 (v := .int .i64 (coefR d n l s).1) rfl rfl; have f4_ := HS.out.c 3 1 (v := .int .i64 (coefR d n l s).2.1) rfl rfl) | (go_at_call 33; refine (lawEqFraction _ _ _).mono ?_; rintro e_ w1 ⟨rfl, hb⟩; have n_ := Aside0.mk (HS.out.call hb); clear HS f1_ f2_ f3_ f4_ hb; have HS := n_; clear n_))
  repeat (focus (go_ret; exact ⟨rfl, HS.out.below⟩; done))
  have n_ := Aside0.mk HS.out.drew
  clear HS
  have HS := n_
  clear n_
  refine plan_start (.t 0 (.t 1 (.e 2 (.d 3 (.p 4 .done))))) (fun w' => w'.cell? ⟨g_x0, 0, none⟩ = some (.int .i64 d) ∧ w'.cell? ⟨g_x0, 1, none⟩ = some (.int .i64 n) ∧ w'.cell? ⟨g_x0, 2, none⟩ = some (.slice A2 l.length c2) ∧ w'.cell? ⟨g_a, 0, none⟩ = some (.int .i64 d) ∧ w'.cell? ⟨g_a, 1, none⟩ = some (.int .i64 n) ∧ w'.cell? ⟨g_a, 2, none⟩ = some (.slice A l.length c)) [3] (by kernel_rfl) (by kernel_rfl) (fun c_ a_ d_ v_ w_ h_ => by cases d_ <;> exact h_) ⟨HS.out.c 1 0 (v := .int .i64 d) rfl rfl, HS.out.c 1 1 (v := .int .i64 n) rfl rfl, HS.out.c 1 2 (v := .slice A2 l.length c2) rfl rfl, HS.out.c 5 0 (v := .int .i64 d) rfl rfl, HS.out.c 5 1 (v := .int .i64 n) rfl rfl, HS.out.c 5 2 (v := .slice A l.length c) rfl rfl⟩ (fun hHeld => ?_)
  repeat (first | ((with_reducible refine gate_p ?_); refine run_p (v := ?_) rfl rfl (Or.inl ⟨by rfl, ?_⟩) (a' := ?_) ?_ ?_; rotate_left; (· (intro w'; first | (go_simp; with_reducible rfl) | (go_simp; done))); rotate_left; (· first | (simp only [Act.put, List.setIfInBounds_toArray, List.set_cons_zero, List.set_cons_succ, i64_w, i32_w]; rfl) | simp only [Act.put, List.setIfInBounds_toArray, List.set_cons_zero, List.set_cons_succ, i64_w, i32_w])) | ((with_reducible refine gate_t ?_); refine run_t (v := ?_) rfl rfl hHeld (Or.inl ⟨by rfl, ?_⟩) (a' := ?_) ?_ ?_; rotate_left; (· (intro w' hS_; first | (go_simp; with_reducible rfl) | (go_simp; done))); rotate_left; (· first | (simp only [Act.put, List.setIfInBounds_toArray, List.set_cons_zero, List.set_cons_succ, i64_w, i32_w]; rfl) | simp only [Act.put, List.setIfInBounds_toArray, List.set_cons_zero, List.set_cons_succ, i64_w, i32_w])))
  refine run_e rfl (fun K hK => ?_)
  refine goes_ Try.func41 (by kernel_rfl) rfl #[.agg #[.int .i64 d, .int .i64 n, .slice A l.length c]] (by rfl) rfl rfl (by simp only [List.map_toArray, List.map_cons, List.map_nil]; rfl) ?_
  refine (lawSeries d n A c l _ (HS.out.oldC HR.out) (bnd_iff.1 (hv3 (by omega))).1).mono ?_
  rintro e_ w1 ⟨A3, c3, rfl, hs⟩
  refine ⟨_, rfl, ?_⟩
  have n_ := Aside0.mk (HS.out.new hs)
  clear HS hs
  have HS := n_
  clear n_
  simp only [List.cons_append, List.nil_append] at HS
  refine goE hK ⟨HS.out.c 2 0 (v := .int .i64 d) rfl rfl, HS.out.c 2 1 (v := .int .i64 n) rfl rfl, HS.out.c 2 2 (v := .slice A2 l.length c2) rfl rfl, HS.out.c 6 0 (v := .int .i64 d) rfl rfl, HS.out.c 6 1 (v := .int .i64 n) rfl rfl, HS.out.c 6 2 (v := .slice A l.length c) rfl rfl⟩ (a' := ?_) ?_ (fun hHeld => ?_)
  rotate_left
  · first | (simp only [Act.put, List.setIfInBounds_toArray, List.set_cons_zero, List.set_cons_succ, i64_w, i32_w]; rfl) | simp only [Act.put, List.setIfInBounds_toArray, List.set_cons_zero, List.set_cons_succ, i64_w, i32_w]
  clear hK K
  refine run_d rfl (fun K hK => ?_)
  refine goes_ Try.func36 (by kernel_rfl) rfl #[.agg #[.int .i64 d, .int .i64 n, .slice A2 l.length c2], .agg #[.int .i64 d, .int .i64 n, .slice A3 l.length c3]] (by rfl) rfl rfl (by simp only [List.map_toArray, List.map_cons, List.map_nil]; rfl) ?_
  refine (lawEqSeries d n A2 A3 c2 c3 l _ (HS.out.reads 3 rfl) (HS.out.reads 0 rfl) (bnd_iff.1 (hv3 (by omega))).1).mono ?_
  rintro e_ w1 ⟨rfl, hb⟩
  refine ⟨_, rfl, ?_⟩
  have n_ := Aside0.mk (HS.out.call hb)
  clear HS hb
  have HS := n_
  clear n_
  refine goD hK (a' := ?_) ?_ ?_
  rotate_left
  · first | (simp only [Act.put, List.setIfInBounds_toArray, List.set_cons_zero, List.set_cons_succ, i64_w, i32_w]; rfl) | simp only [Act.put, List.setIfInBounds_toArray, List.set_cons_zero, List.set_cons_succ, i64_w, i32_w]
  clear hK K
  repeat (first | ((with_reducible refine gate_p ?_); refine run_p (v := ?_) rfl rfl (Or.inl ⟨by rfl, ?_⟩) (a' := ?_) ?_ ?_; rotate_left; (· (intro w'; first | (go_simp; with_reducible rfl) | (go_simp; done))); rotate_left; (· first | (simp only [Act.put, List.setIfInBounds_toArray, List.set_cons_zero, List.set_cons_succ, i64_w, i32_w]; rfl) | simp only [Act.put, List.setIfInBounds_toArray, List.set_cons_zero, List.set_cons_succ, i64_w, i32_w])) | ((with_reducible refine gate_t ?_); refine run_t (v := ?_) rfl rfl hHeld (Or.inl ⟨by rfl, ?_⟩) (a' := ?_) ?_ ?_; rotate_left; (· (intro w' hS_; first | (go_simp; with_reducible rfl) | (go_simp; done))); rotate_left; (· first | (simp only [Act.put, List.setIfInBounds_toArray, List.set_cons_zero, List.set_cons_succ, i64_w, i32_w]; rfl) | simp only [Act.put, List.setIfInBounds_toArray, List.set_cons_zero, List.set_cons_succ, i64_w, i32_w])))
  refine run_done ?_
  clear hHeld
  go_wp2
  repeat (focus (go_ret; exact ⟨rfl, HS.out.below⟩; done))
end Go.Proofs.Ytcklblagklojhaa.H

