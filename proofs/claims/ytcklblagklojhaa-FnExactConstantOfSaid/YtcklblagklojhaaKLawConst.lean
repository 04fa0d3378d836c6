/- The law of ConstantOf: its call returns true. Conditions: those of arguments that can be read. -/
import Derived.Test.YtcklblagklojhaaKConst
namespace Go.Proofs.Ytcklblagklojhaa.H
open Go.RowKit Go.Proofs.YtcklblagklojhaaW.PrintWords Go.Proofs.YtcklblagklojhaaW.PrintLast Go.Proofs.YtcklblagklojhaaW.PrintMore Go.Proofs.Ytcklblagklojhaa.M
set_option linter.unusedVariables false
set_option linter.unusedSimpArgs false
set_option maxRecDepth 100000
set_option maxHeartbeats 16000000 in
theorem lawConstantOf (d0 n0 : Int) (A0 : Option Addr) (c0 : Nat) (l0 : Ts) (w : World) (hl0 : l0.length ≤ c0) (hm0 : ∀ t ∈ l0, t.1.size ≤ 9223372036854775807) (hr0 : KT.C w A0 l0.length l0) :
    Calls Try.prog 9 #[.agg #[.int .i64 d0, .int .i64 n0, .slice A0 l0.length c0]] w fun e w' => e = .returned (.bool true) ∧ Below w.heap.size w w' := by
  have HR0 := Aside0.mk hr0
  have HM0 := Aside0.mk hm0
  have hlm0 : l0.length ≤ 9223372036854775807 := Kd.C_max hr0
  have HS := Aside0.mk (Sep.refl w)
  have hne : ((constR d0 n0 l0).2.2 != (constR d0 n0 l0).2.2) = false := by simp
  clear hr0 hm0
  go_enter Try.func9, Try.ntmps9
  have tk1_ : True := trivial
  go_wp2_with (first | ((with_reducible refine gate_dst (N := 1) rfl ?_); refine wpList_stp (fun K hK => ?_); refine stp_box (by rfl) HS (cs := #[.int .i64 d0, .int .i64 n0, .slice A0 l0.length c0]) (t := 40) (by first | (go_simp; done) | (go_simp; rfl)) ?_; clear HS; intro g_as0 w1 hg_as0 HS; refine hK _ _ ?_; clear hK K; have f1_ := HS.out.c 0 0 (v := .int .i64 d0) rfl rfl; have f2_ := HS.out.c 0 1 (v := .int .i64 n0) rfl rfl; have f3_ := HS.out.c 0 2 (v := .slice A0 l0.length c0) rfl rfl) | (go_at_call 39; refine (lawSzSeries d0 n0 A0 c0 l0 1048576 _ (HS.out.oldC HR0.out) hlm0 HM0.out (by omega) (by omega)).mono ?_; rintro e_ w1 ⟨v0, rfl, hv0, hu0, hz0, hb⟩; have n_ := Aside0.mk (HS.out.call hb); clear HS f1_ f2_ f3_ hb; have HS := n_; clear n_; have f1_ := HS.out.c 0 0 (v := .int .i64 d0) rfl rfl; have f2_ := HS.out.c 0 1 (v := .int .i64 n0) rfl rfl; have f3_ := HS.out.c 0 2 (v := .slice A0 l0.length c0) rfl rfl) | (go_at_call 41; clear tk1_; refine (lawSeries d0 n0 A0 c0 l0 _ (HS.out.oldC HR0.out) (bnd_iff.1 (hz0 (by omega))).1).mono ?_; rintro e_ w1 ⟨B1, b1, rfl, hs⟩; have n_ := Aside0.mk (HS.out.new hs); clear HS f1_ f2_ f3_ hs; have HS := n_; clear n_; simp only [List.cons_append, List.nil_append] at HS) | (go_at_call 49; refine (specConstantOf d0 n0 B1 b1 l0 _ (HS.out.reads 0 rfl) (HS.out.cap 0 rfl) (hz0 (by omega))).mono ?_; rintro e_ w1 ⟨rfl, hb⟩; have n_ := Aside0.mk (HS.out.call hb); clear HS hb; have HS := n_; clear n_) | ((with_reducible refine gate_dst (N := 4) rfl ?_); refine wpList_stp (fun K hK => ?_); refine stp_box (by rfl) HS (cs := #[(.int .i64 0), (.int .i64 0)]) (t := 24) (by first | (go_simp; done) | (go_simp; rfl)) ?_; clear HS; intro g_bw0 w1 hg_bw0 HS; refine hK _ _ ?_; clear hK K) | ((with_reducible refine gate_store (t := 24) (p := 4) rfl ?_); refine wpList_stp (fun K hK => ?_); refine stp_set (by rfl) rfl rfl HS 0 0 (cs' := #[.int .i64 (constR d0 n0 l0).1, .int .i64 (constR d0 n0 l0).2.1]) rfl rfl rfl (by kernel_rfl) rfl rfl ?_; clear HS; intro w1 HS; simp only [List.set_cons_zero, List.set_cons_succ] at HS; refine hK _ _ ?_; clear hK K; have f1_ := HS.out.c 2 0 (v := .int .i64 d0) rfl rfl; have f2_ := HS.out.c 2 1 (v := .int .i64 n0) rfl rfl; have f3_ := HS.out.c 2 2 (v := .slice A0 l0.length c0) rfl rfl) | (go_at_call 41; refine (lawSeries d0 n0 A0 c0 l0 _ (HS.out.oldC HR0.out) (bnd_iff.1 (hz0 (by omega))).1).mono ?_; rintro e_ w1 ⟨B2, b2, rfl, hs⟩; have n_ := Aside0.mk (HS.out.new hs); clear HS f1_ f2_ f3_ hs; have HS := n_; clear n_; simp only [List.cons_append, List.nil_append] at HS) | ((with_reducible refine gate_dst (N := 6) rfl ?_); refine wpList_stp (fun K hK => ?_); refine stp_box (by rfl) HS (cs := #[(.int .i64 0), (.int .i64 0), (.slice none 0 0)]) (t := 32) (by first | (go_simp; done) | (go_simp; rfl)) ?_; clear HS; intro g_bx0 w1 hg_bx0 HS; refine hK _ _ ?_; clear hK K) | ((with_reducible refine gate_store (t := 32) (p := 6) rfl ?_); refine wpList_stp (fun K hK => ?_); refine stp_set (by rfl) rfl rfl HS 0 0 (cs' := #[.int .i64 d0, .int .i64 n0, .slice B2 l0.length b2]) rfl rfl rfl (by kernel_rfl) rfl rfl ?_; clear HS; intro w1 HS; simp only [List.set_cons_zero, List.set_cons_succ] at HS; refine hK _ _ ?_; clear hK K; have f1_ := HS.out.c 0 0 (v := .int .i64 d0) rfl rfl; have f2_ := HS.out.c 0 1 (v := .int .i64 n0) rfl rfl; have f3_ := HS.out.c 0 2 (v := .slice B2 l0.length b2) rfl rfl) | (go_at_call 50; refine (implConstantOf d0 n0 B2 b2 l0 _ (HS.out.reads 1 rfl) (HS.out.cap 1 rfl) (hz0 (by omega))).mono ?_; rintro e_ w1 ⟨rfl, hb⟩; have n_ := Aside0.mk (HS.out.call hb); clear HS f1_ f2_ f3_ hb; have HS := n_; clear n_) | ((with_reducible refine gate_dst (N := 7) rfl ?_); refine wpList_stp (fun K hK => ?_); refine stp_box (by rfl) HS (cs := #[(.int .i64 0), (.int .i64 0)]) (t := 24) (by first | (go_simp; done) | (go_simp; rfl)) ?_; clear HS; intro g_bg0 w1 hg_bg0 HS; refine hK _ _ ?_; clear hK K) | ((with_reducible refine gate_store (t := 24) (p := 7) rfl ?_); refine wpList_stp (fun K hK => ?_); refine stp_set (by rfl) rfl rfl HS 0 0 (cs' := #[.int .i64 (constR d0 n0 l0).1, .int .i64 (constR d0 n0 l0).2.1]) rfl rfl rfl (by kernel_rfl) rfl rfl ?_; clear HS; intro w1 HS; simp only [List.set_cons_zero, List.set_cons_succ] at HS; refine hK _ _ ?_; clear hK K; have f1_ := HS.out.c 0 0 (v := .int .i64 (constR d0 n0 l0).1) rfl rfl; have f2_ := HS.out.c 0 1 (v := .int .i64 (constR d0 n0 l0).2.1) rfl rfl; have f3_ := HS.out.c 3 0 (v := .int .i64 (constR d0 n0 l0).1) rfl rfl; have f4_ := HS.out.c 3 1 (v := .int .i64 (constR d0 n0 l0).2.1) rfl rfl) | (go_at_call 33; refine (lawEqFraction _ _ _).mono ?_; rintro e_ w1 ⟨rfl, hb⟩; have n_ := Aside0.mk (HS.out.call hb); clear HS f1_ f2_ f3_ f4_ hb; have HS := n_; clear n_))
  repeat (focus (go_ret; exact ⟨rfl, HS.out.below⟩; done))
  have n_ := Aside0.mk HS.out.drew
  clear HS
  have HS := n_
  clear n_
  refine plan_start (.t 0 (.t 1 (.e 2 (.d 3 (.p 4 .done))))) (fun w' => w'.cell? ⟨g_bx0, 0, none⟩ = some (.int .i64 d0) ∧ w'.cell? ⟨g_bx0, 1, none⟩ = some (.int .i64 n0) ∧ w'.cell? ⟨g_bx0, 2, none⟩ = some (.slice B2 l0.length b2) ∧ w'.cell? ⟨g_as0, 0, none⟩ = some (.int .i64 d0) ∧ w'.cell? ⟨g_as0, 1, none⟩ = some (.int .i64 n0) ∧ w'.cell? ⟨g_as0, 2, none⟩ = some (.slice A0 l0.length c0)) [3] (by kernel_rfl) (by kernel_rfl) (fun c_ a_ d_ v_ w_ h_ => by cases d_ <;> exact h_) ⟨HS.out.c 1 0 (v := .int .i64 d0) rfl rfl, HS.out.c 1 1 (v := .int .i64 n0) rfl rfl, HS.out.c 1 2 (v := .slice B2 l0.length b2) rfl rfl, HS.out.c 5 0 (v := .int .i64 d0) rfl rfl, HS.out.c 5 1 (v := .int .i64 n0) rfl rfl, HS.out.c 5 2 (v := .slice A0 l0.length c0) rfl rfl⟩ (fun hHeld => ?_)
  repeat (first | ((with_reducible refine gate_p ?_); refine run_p (v := ?_) rfl rfl (Or.inl ⟨by rfl, ?_⟩) (a' := ?_) ?_ ?_; rotate_left; (· (intro w'; first | (go_simp; with_reducible rfl) | (go_simp; done))); rotate_left; (· first | (simp only [Act.put, List.setIfInBounds_toArray, List.set_cons_zero, List.set_cons_succ, i64_w, i32_w]; rfl) | simp only [Act.put, List.setIfInBounds_toArray, List.set_cons_zero, List.set_cons_succ, i64_w, i32_w])) | ((with_reducible refine gate_t ?_); refine run_t (v := ?_) rfl rfl hHeld (Or.inl ⟨by rfl, ?_⟩) (a' := ?_) ?_ ?_; rotate_left; (· (intro w' hS_; first | (go_simp; with_reducible rfl) | (go_simp; done))); rotate_left; (· first | (simp only [Act.put, List.setIfInBounds_toArray, List.set_cons_zero, List.set_cons_succ, i64_w, i32_w]; rfl) | simp only [Act.put, List.setIfInBounds_toArray, List.set_cons_zero, List.set_cons_succ, i64_w, i32_w])))
  refine run_e rfl (fun K hK => ?_)
  refine goes_ Try.func41 (by kernel_rfl) rfl #[.agg #[.int .i64 d0, .int .i64 n0, .slice A0 l0.length c0]] (by rfl) rfl rfl (by simp only [List.map_toArray, List.map_cons, List.map_nil]; rfl) ?_
  refine (lawSeries d0 n0 A0 c0 l0 _ (HS.out.oldC HR0.out) (bnd_iff.1 (hz0 (by omega))).1).mono ?_
  rintro e_ w1 ⟨B3, b3, rfl, hs⟩
  refine ⟨_, rfl, ?_⟩
  have n_ := Aside0.mk (HS.out.new hs)
  clear HS hs
  have HS := n_
  clear n_
  simp only [List.cons_append, List.nil_append] at HS
  refine goE hK ⟨HS.out.c 2 0 (v := .int .i64 d0) rfl rfl, HS.out.c 2 1 (v := .int .i64 n0) rfl rfl, HS.out.c 2 2 (v := .slice B2 l0.length b2) rfl rfl, HS.out.c 6 0 (v := .int .i64 d0) rfl rfl, HS.out.c 6 1 (v := .int .i64 n0) rfl rfl, HS.out.c 6 2 (v := .slice A0 l0.length c0) rfl rfl⟩ (a' := ?_) ?_ (fun hHeld => ?_)
  rotate_left
  · first | (simp only [Act.put, List.setIfInBounds_toArray, List.set_cons_zero, List.set_cons_succ, i64_w, i32_w]; rfl) | simp only [Act.put, List.setIfInBounds_toArray, List.set_cons_zero, List.set_cons_succ, i64_w, i32_w]
  clear hK K
  refine run_d rfl (fun K hK => ?_)
  refine goes_ Try.func36 (by kernel_rfl) rfl #[.agg #[.int .i64 d0, .int .i64 n0, .slice B2 l0.length b2], .agg #[.int .i64 d0, .int .i64 n0, .slice B3 l0.length b3]] (by rfl) rfl rfl (by simp only [List.map_toArray, List.map_cons, List.map_nil]; rfl) ?_
  refine (lawEqSeries d0 n0 B2 B3 b2 b3 l0 _ (HS.out.reads 3 rfl) (HS.out.reads 0 rfl) (bnd_iff.1 (hz0 (by omega))).1).mono ?_
  rintro e_ w1 ⟨rfl, hb⟩
  refine ⟨_, rfl, ?_⟩
  have n_ := Aside0.mk (HS.out.call hb)
  clear HS hb
  have HS := n_
  clear n_
  refine goD hK (a' := ?_) ?_ ?_
  rotate_left
  · first | (simp only [Act.put, List.setIfInBounds_toArray, List.set_cons_zero, List.set_cons_succ, i64_w, i32_w]; rfl) | simp only [Act.put, List.setIfInBounds_toArray, List.set_cons_zero, List.set_cons_succ, i64_w, i32_w]
  clear hK K
  repeat (first | ((with_reducible refine gate_p ?_); refine run_p (v := ?_) rfl rfl (Or.inl ⟨by rfl, ?_⟩) (a' := ?_) ?_ ?_; rotate_left; (· (intro w'; first | (go_simp; with_reducible rfl) | (go_simp; done))); rotate_left; (· first | (simp only [Act.put, List.setIfInBounds_toArray, List.set_cons_zero, List.set_cons_succ, i64_w, i32_w]; rfl) | simp only [Act.put, List.setIfInBounds_toArray, List.set_cons_zero, List.set_cons_succ, i64_w, i32_w])) | ((with_reducible refine gate_t ?_); refine run_t (v := ?_) rfl rfl hHeld (Or.inl ⟨by rfl, ?_⟩) (a' := ?_) ?_ ?_; rotate_left; (· (intro w' hS_; first | (go_simp; with_reducible rfl) | (go_simp; done))); rotate_left; (· first | (simp only [Act.put, List.setIfInBounds_toArray, List.set_cons_zero, List.set_cons_succ, i64_w, i32_w]; rfl) | simp only [Act.put, List.setIfInBounds_toArray, List.set_cons_zero, List.set_cons_succ, i64_w, i32_w])))
  refine run_done ?_
  clear hHeld
  go_wp2
  repeat (focus (go_ret; exact ⟨rfl, HS.out.below⟩; done))
end Go.Proofs.Ytcklblagklojhaa.H

