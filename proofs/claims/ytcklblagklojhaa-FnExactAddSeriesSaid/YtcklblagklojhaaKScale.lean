/- ScaleSeries: what the program and the reference return. Conditions: the bounds that stand in each statement. -/
import Derived.Test.YtcklblagklojhaaKPut
namespace Go.Proofs.Ytcklblagklojhaa.M
def resQ (d n : Int) : Option Ts → Int × Int × Ts × Bool
  | none => (0, 0, [], false)
  | some y => (d, n, y, true)
def scaleR (d n : Int) (l : Ts) (x y : Int) : Rs := if isS d n l = true then if isFr x y = true then resO d n (scS l (x, y)) else noS 1 else noS 1
theorem scF_len {a : Fr} : ∀ {l y z : Ts}, l.foldlM (scF a) y = some z → z.length = y.length + l.length
  | [], y, z, h => by
    have : y = z := by simpa using h
    rw [this]; rfl
  | t :: r, y, z, h => by
    rw [List.foldlM_cons] at h
    unfold scF at h
    cases hm : mul t.2 a with
    | none => rw [hm] at h; cases h
    | some c =>
      rw [hm] at h
      have := scF_len (l := r) (y := y ++ [(t.1, c)]) (z := z) h
      rw [this, List.length_append, List.length_cons]
      simp; omega
end Go.Proofs.Ytcklblagklojhaa.M
namespace Go.Proofs.Ytcklblagklojhaa.H
open Go.RowKit Go.Proofs.YtcklblagklojhaaW.PrintWords Go.Proofs.YtcklblagklojhaaW.PrintLast Go.Proofs.YtcklblagklojhaaW.PrintMore Go.Proofs.Ytcklblagklojhaa.M
attribute [local go_sem] max2_int min2_int max_two min_two max_three min_three max_four min_four
set_option linter.unusedVariables false
set_option linter.unusedSimpArgs false
set_option maxRecDepth 100000
set_option maxHeartbeats 16000000 in
theorem specScale (d n : Int) (A : Option Addr) (c : Nat) (l : Ts) (x y : Int) (w : World) (hr : KT.C w A l.length l) (hb : bnd l = true) (hsm : ∀ t ∈ l, small t.2) (ha : small (x, y)) :
    Calls Try.prog 139 #[.agg #[.int .i64 d, .int .i64 n, .slice A l.length c], .agg #[.int .i64 x, .int .i64 y]] w fun e w' => ∃ B b, e = .returned (.tuple #[.agg #[.int .i64 (resQ d n (scS l (x, y))).1, .int .i64 (resQ d n (scS l (x, y))).2.1, .slice B (resQ d n (scS l (x, y))).2.2.1.length b], .bool (resQ d n (scS l (x, y))).2.2.2]) ∧ Sep w w' [rowT B b (resQ d n (scS l (x, y))).2.2.1] := by
  have HR := Aside0.mk hr
  have hll := (bnd_iff.1 hb).1
  have HSM := Aside0.mk (fun k (h : k < l.length) => (by rw [getD_lt l zT k h]; exact hsm _ (List.getElem_mem h) : small (l.getD k zT).2))
  have HA := Aside0.mk ha
  have HS := Aside0.mk (Sep.refl w)
  clear hr hb hsm ha
  by_cases hz : x = 0
  · have hzb : (x == 0) = true := by rw [hz]; rfl
    have HZ := Aside0.mk hz
    clear hz
    go_enter Try.func139, Try.ntmps139
    go_wp2_with (first | ((with_reducible refine gate_dst (N := 2) rfl ?_); refine wpList_stp (fun K hK => ?_); refine stp_box (by rfl) HS (cs := #[.int .i64 d, .int .i64 n, .slice A l.length c]) (t := 32) (by first | (go_simp; done) | (go_simp; rfl)) ?_; clear HS; intro g_p w1 hg_p HS; refine hK _ _ ?_; clear hK K) | ((with_reducible refine gate_dst (N := 3) rfl ?_); refine wpList_stp (fun K hK => ?_); refine stp_box (by rfl) HS (cs := #[.int .i64 x, .int .i64 y]) (t := 24) (by first | (go_simp; done) | (go_simp; rfl)) ?_; clear HS; intro g_a w1 hg_a HS; refine hK _ _ ?_; clear hK K) | ((with_reducible refine gate_dst (N := 4) rfl ?_); refine wpList_stp (fun K hK => ?_); refine stp_box (by rfl) HS (cs := #[(.int .i64 0), (.int .i64 0), (.slice none 0 0)]) (t := 32) (by first | (go_simp; done) | (go_simp; rfl)) ?_; clear HS; intro g_r w1 hg_r HS; refine hK _ _ ?_; clear hK K; have f1_ := HS.out.c 2 0 (v := .int .i64 d) rfl rfl; have f2_ := HS.out.c 2 1 (v := .int .i64 n) rfl rfl; have f3_ := HS.out.c 2 2 (v := .slice A l.length c) rfl rfl) | (go_at_call 117; refine (specEmpty d n A l.length c _).mono ?_; rintro e_ w1 ⟨B, b, rfl, hs⟩; have n_ := Aside0.mk (HS.out.new hs); clear HS f1_ f2_ f3_ hs; have HS := n_; clear n_; simp only [List.cons_append, List.nil_append] at HS) | ((with_reducible refine gate_dst (N := 6) rfl ?_); refine wpList_stp (fun K hK => ?_); refine stp_box (by rfl) HS (cs := #[(.int .i64 0), (.int .i64 0), (.slice none 0 0)]) (t := 32) (by first | (go_simp; done) | (go_simp; rfl)) ?_; clear HS; intro g_q w1 hg_q HS; refine hK _ _ ?_; clear hK K) | ((with_reducible refine gate_store (t := 32) (p := 6) rfl ?_); refine wpList_stp (fun K hK => ?_); refine stp_set (by rfl) rfl rfl HS 0 0 (cs' := #[.int .i64 d, .int .i64 n, .slice B ([] : Ts).length b]) rfl rfl rfl (by kernel_rfl) rfl rfl ?_; clear HS; intro w1 HS; simp only [List.set_cons_zero, List.set_cons_succ] at HS; refine hK _ _ ?_; clear hK K))
    go_loopw [7] (fun v w' => v = .int .i64 0 ∧ Aside0 (Mod w w' No [bx g_q 32 #[.int .i64 d, .int .i64 n, .slice B ([] : Ts).length b], rowT B b [], bx g_r 32 #[(.int .i64 0), (.int .i64 0), (.slice none 0 0)], bx g_a 24 #[.int .i64 x, .int .i64 y], bx g_p 32 #[.int .i64 d, .int .i64 n, .slice A l.length c]])) (fun v _ => 0)
    case atStart => exact ⟨rfl, HS⟩
    case round =>
      clear HS
      obtain ⟨rfl, HS⟩ := hrel
      by_cases hlt : 0 < l.length
      · skip
        have f1_ := HS.out.c 4 2 (v := .slice A l.length c) rfl rfl
        have f2_ := HS.out.c 3 0 (v := .int .i64 x) rfl rfl
        have f3_ := HS.out.c 3 1 (v := .int .i64 y) rfl rfl
        go_wp2_with (first | (go_at_call 92; refine (specZero _ _ _).mono ?_; rintro e_ w1 ⟨rfl, hb⟩; have n_ := Aside0.mk (HS.out.call hb); clear HS f1_ f2_ f3_ hb; have HS := n_; clear n_; have f1_ := HS.out.c 0 0 (v := .int .i64 d) rfl rfl; have f2_ := HS.out.c 0 1 (v := .int .i64 n) rfl rfl; have f3_ := HS.out.c 0 2 (v := .slice B ([] : Ts).length b) rfl rfl) | ((with_reducible refine gate_store (t := 32) (p := 4) rfl ?_); refine wpList_stp (fun K hK => ?_); refine stp_set (by rfl) rfl rfl HS 2 0 (cs' := #[.int .i64 d, .int .i64 n, .slice B ([] : Ts).length b]) rfl rfl rfl (by kernel_rfl) rfl rfl ?_; clear HS f1_ f2_ f3_; intro w1 HS; simp only [List.set_cons_zero, List.set_cons_succ] at HS; refine hK _ _ ?_; clear hK K))
        refine bodyPost_ret (results_cell_tmp_row rfl _ _ g_r 32 #[.int .i64 d, .int .i64 n, .slice B ([] : Ts).length b] (0, 0) _ rfl (HS.out.at (i := 2) rfl) Try.underlying32 rfl (by kernel_rfl)) rfl ?_
        have e_ : scS l (x, y) = some [] := by unfold scS; rw [if_pos HZ.out]
        rw [e_]
        exact ⟨B, b, rfl, HS.out.sel [1] (by decide)⟩
      · skip
        have f1_ := HS.out.c 4 2 (v := .slice A l.length c) rfl rfl
        have f2_ := HS.out.c 0 0 (v := .int .i64 d) rfl rfl
        have f3_ := HS.out.c 0 1 (v := .int .i64 n) rfl rfl
        have f4_ := HS.out.c 0 2 (v := .slice B ([] : Ts).length b) rfl rfl
        go_wp2_with (first | ((with_reducible refine gate_store (t := 32) (p := 4) rfl ?_); refine wpList_stp (fun K hK => ?_); refine stp_set (by rfl) rfl rfl HS 2 0 (cs' := #[.int .i64 d, .int .i64 n, .slice B ([] : Ts).length b]) rfl rfl rfl (by kernel_rfl) rfl rfl ?_; clear HS f1_ f2_ f3_ f4_; intro w1 HS; simp only [List.set_cons_zero, List.set_cons_succ] at HS; refine hK _ _ ?_; clear hK K))
        refine bodyPost_ret (results_cell_tmp_row rfl _ _ g_r 32 #[.int .i64 d, .int .i64 n, .slice B ([] : Ts).length b] (0, 0) _ rfl (HS.out.at (i := 2) rfl) Try.underlying32 rfl (by kernel_rfl)) rfl ?_
        have e_ : scS l (x, y) = some [] := by unfold scS; rw [if_pos HZ.out]
        rw [e_]
        exact ⟨B, b, rfl, HS.out.sel [1] (by decide)⟩
  · have hzb : (x == 0) = false := by simpa using hz
    have HZ := Aside0.mk (show scS l (x, y) = l.foldlM (scF (x, y)) [] by unfold scS; rw [if_neg hz])
    clear hz
    go_enter Try.func139, Try.ntmps139
    go_wp2_with (first | ((with_reducible refine gate_dst (N := 2) rfl ?_); refine wpList_stp (fun K hK => ?_); refine stp_box (by rfl) HS (cs := #[.int .i64 d, .int .i64 n, .slice A l.length c]) (t := 32) (by first | (go_simp; done) | (go_simp; rfl)) ?_; clear HS; intro g_p w1 hg_p HS; refine hK _ _ ?_; clear hK K) | ((with_reducible refine gate_dst (N := 3) rfl ?_); refine wpList_stp (fun K hK => ?_); refine stp_box (by rfl) HS (cs := #[.int .i64 x, .int .i64 y]) (t := 24) (by first | (go_simp; done) | (go_simp; rfl)) ?_; clear HS; intro g_a w1 hg_a HS; refine hK _ _ ?_; clear hK K) | ((with_reducible refine gate_dst (N := 4) rfl ?_); refine wpList_stp (fun K hK => ?_); refine stp_box (by rfl) HS (cs := #[(.int .i64 0), (.int .i64 0), (.slice none 0 0)]) (t := 32) (by first | (go_simp; done) | (go_simp; rfl)) ?_; clear HS; intro g_r w1 hg_r HS; refine hK _ _ ?_; clear hK K; have f1_ := HS.out.c 2 0 (v := .int .i64 d) rfl rfl; have f2_ := HS.out.c 2 1 (v := .int .i64 n) rfl rfl; have f3_ := HS.out.c 2 2 (v := .slice A l.length c) rfl rfl) | (go_at_call 117; refine (specEmpty d n A l.length c _).mono ?_; rintro e_ w1 ⟨B, b, rfl, hs⟩; have n_ := Aside0.mk (HS.out.new hs); clear HS f1_ f2_ f3_ hs; have HS := n_; clear n_; simp only [List.cons_append, List.nil_append] at HS) | ((with_reducible refine gate_dst (N := 6) rfl ?_); refine wpList_stp (fun K hK => ?_); refine stp_box (by rfl) HS (cs := #[(.int .i64 0), (.int .i64 0), (.slice none 0 0)]) (t := 32) (by first | (go_simp; done) | (go_simp; rfl)) ?_; clear HS; intro g_q w1 hg_q HS; refine hK _ _ ?_; clear hK K) | ((with_reducible refine gate_store (t := 32) (p := 6) rfl ?_); refine wpList_stp (fun K hK => ?_); refine stp_set (by rfl) rfl rfl HS 0 0 (cs' := #[.int .i64 d, .int .i64 n, .slice B ([] : Ts).length b]) rfl rfl rfl (by kernel_rfl) rfl rfl ?_; clear HS; intro w1 HS; simp only [List.set_cons_zero, List.set_cons_succ] at HS; refine hK _ _ ?_; clear hK K))
    go_loopw [7] (fun v w' => ∃ (i : Nat) (B : Option Addr) (b : Nat) (z : Ts), i ≤ l.length ∧ v = .int .i64 (i : Int) ∧ Aside0 ((l.take i).foldlM (scF (x, y)) [] = some z) ∧ Aside0 (Mod w w' No [bx g_q 32 #[.int .i64 d, .int .i64 n, .slice B z.length b], rowT B b z, bx g_r 32 #[(.int .i64 0), (.int .i64 0), (.slice none 0 0)], bx g_a 24 #[.int .i64 x, .int .i64 y], bx g_p 32 #[.int .i64 d, .int .i64 n, .slice A l.length c]])) (fun v _ => l.length - (intOf v).toNat)
    case atStart => exact ⟨0, B, b, [], by omega, rfl, ⟨rfl⟩, HS⟩
    case round =>
      clear HS
      obtain ⟨i, B, b, z, hi, rfl, HY, HS⟩ := hrel
      by_cases hlt : i < l.length
      · have hzl : z.length ≤ 1048576 := by have := scF_len HY.out; rw [List.length_take] at this; simp at this; omega
        have HN := Aside0.mk (foldM_next (scF (x, y)) l [] hlt)
        have hsm := HSM.out i hlt
        have hgt := Aside0.mk (getD_lt l zT i hlt)
        obtain ⟨ad_A, ea_, h0_, h1_, h2_⟩ := tm_at HR.out i (hlt)
        cases ea_
        obtain ⟨t, ht_⟩ : ∃ t_, t_ = l.getD i zT := ⟨_, rfl⟩
        rw [← ht_] at h0_ h1_ h2_
        have Et := Aside0.mk ht_; have H0t := Aside0.mk h0_; have H1t := Aside0.mk h1_; have H2t := Aside0.mk h2_
        clear ht_ h0_ h1_ h2_
        rw [← Et.out] at hsm hgt
        rw [← hgt.out, HY.out] at HN
        obtain ⟨m, hm⟩ : ∃ m, m = mul t.2 (x, y) := ⟨_, rfl⟩
        have HP := Aside0.mk (fun W => hm ▸ specTimes t.2.1 t.2.2 x y W hsm HA.out)
        have HM := Aside0.mk hm
        clear hm
        cases m with
        | none =>
          have f1_ := HS.out.c 4 2 (v := .slice (some ad_A) l.length c) rfl rfl
          have f2_ := HS.out.c 3 0 (v := .int .i64 x) rfl rfl
          have f3_ := HS.out.c 3 1 (v := .int .i64 y) rfl rfl
          go_wp2_with (first | (go_at_call 92; refine (specZero _ _ _).mono ?_; rintro e_ w1 ⟨rfl, hb⟩; have n_ := Aside0.mk (HS.out.call hb); clear HS f1_ f2_ f3_ hb; have HS := n_; clear n_))
          have n_ := Aside0.mk HS.out.drew
          clear HS
          have HS := n_
          clear n_
          apply region_told ((fun (A0_ : Nat → Act) (a' : Act) (w' : World) => ∃ (g_u : Nat), a' = A0_ g_u ∧ Aside0 (Mod w w' No [bx g_u 24 #[.int .i64 0, .int .i64 0], bx g_q 32 #[.int .i64 d, .int .i64 n, .slice B z.length b], rowT B b z, bx g_r 32 #[(.int .i64 0), (.int .i64 0), (.slice none 0 0)], bx g_a 24 #[.int .i64 x, .int .i64 y], bx g_p 32 #[.int .i64 d, .int .i64 n, .slice (some ad_A) l.length c]])) _)
          case h1 =>
            refine plan_start (.p 0 (.p 2 (.t 1 (.p 3 (.p 4 (.t 5 (.t 6 (.two 7 11 (.p 8 (.p 9 (.p 10 (.e 11 (.d 12 (.p 13 .done)))))) (.e 7 (.p 8 (.p 9 (.p 10 (.d 12 (.p 13 .done)))))))))))))) (fun w' => w'.cell? ⟨g_p, 2, none⟩ = some (.slice (some ad_A) l.length c) ∧ w'.cell? ⟨(ad_A.add (i * 3)).block, (ad_A.add (i * 3)).off + 1, none⟩ = some (.int .i64 t.2.1) ∧ w'.cell? ⟨(ad_A.add (i * 3)).block, (ad_A.add (i * 3)).off + 1 + 1, none⟩ = some (.int .i64 t.2.2) ∧ w'.cell? ⟨g_a, 0, none⟩ = some (.int .i64 x) ∧ w'.cell? ⟨g_a, 1, none⟩ = some (.int .i64 y)) [12] (by kernel_rfl) (by kernel_rfl) (fun c_ a_ d_ v_ w_ h_ => by cases d_ <;> exact h_) ⟨HS.out.c 4 2 (v := .slice (some ad_A) l.length c) rfl rfl, HS.out.old H1t.out, c2 (HS.out.old H2t.out), HS.out.c 3 0 (v := .int .i64 x) rfl rfl, HS.out.c 3 1 (v := .int .i64 y) rfl rfl⟩ (fun hHeld => ?_)
            repeat (first | ((with_reducible refine gate_p ?_); refine run_p (v := ?_) rfl rfl (Or.inl ⟨by rfl, ?_⟩) (a' := ?_) ?_ ?_; rotate_left; (· (intro w'; first | (go_simp; with_reducible rfl) | (go_simp; done))); rotate_left; (· first | (simp only [Act.put, List.setIfInBounds_toArray, List.set_cons_zero, List.set_cons_succ, i64_w, i32_w]; rfl) | simp only [Act.put, List.setIfInBounds_toArray, List.set_cons_zero, List.set_cons_succ, i64_w, i32_w])) | ((with_reducible refine gate_t ?_); refine run_t (v := ?_) rfl rfl hHeld (Or.inl ⟨by rfl, ?_⟩) (a' := ?_) ?_ ?_; rotate_left; (· (intro w' hS_; first | (go_simp; with_reducible rfl) | (go_simp; done))); rotate_left; (· first | (simp only [Act.put, List.setIfInBounds_toArray, List.set_cons_zero, List.set_cons_succ, i64_w, i32_w]; rfl) | simp only [Act.put, List.setIfInBounds_toArray, List.set_cons_zero, List.set_cons_succ, i64_w, i32_w])))
            refine run_two ?_ ?_
            · skip
              refine run_e rfl (fun K hK => ?_)
              refine goes_ Try.func192 (by kernel_rfl) rfl #[.agg #[.int .i64 t.2.1, .int .i64 t.2.2], .agg #[.int .i64 x, .int .i64 y]] (by rfl) rfl rfl (by simp only [List.map_toArray, List.map_cons, List.map_nil]; rfl) ?_
              refine (HP.out _).mono ?_
              rintro e_ w1 ⟨rfl, hb⟩
              refine ⟨_, rfl, ?_⟩
              have n_ := Aside0.mk (HS.out.call hb)
              have HS := n_
              refine goE hK ⟨HS.out.c 4 2 (v := .slice (some ad_A) l.length c) rfl rfl, HS.out.old H1t.out, c2 (HS.out.old H2t.out), HS.out.c 3 0 (v := .int .i64 x) rfl rfl, HS.out.c 3 1 (v := .int .i64 y) rfl rfl⟩ (a' := ?_) ?_ (fun hHeld => ?_)
              rotate_left
              · first | (simp only [Act.put, List.setIfInBounds_toArray, List.set_cons_zero, List.set_cons_succ, i64_w, i32_w]; rfl) | simp only [Act.put, List.setIfInBounds_toArray, List.set_cons_zero, List.set_cons_succ, i64_w, i32_w]
              repeat (first | ((with_reducible refine gate_p ?_); refine run_p (v := ?_) rfl rfl (Or.inl ⟨by rfl, ?_⟩) (a' := ?_) ?_ ?_; rotate_left; (· (intro w'; first | (go_simp; with_reducible rfl) | (go_simp; done))); rotate_left; (· first | (simp only [Act.put, List.setIfInBounds_toArray, List.set_cons_zero, List.set_cons_succ, i64_w, i32_w]; rfl) | simp only [Act.put, List.setIfInBounds_toArray, List.set_cons_zero, List.set_cons_succ, i64_w, i32_w])) | ((with_reducible refine gate_t ?_); refine run_t (v := ?_) rfl rfl hHeld (Or.inl ⟨by rfl, ?_⟩) (a' := ?_) ?_ ?_; rotate_left; (· (intro w' hS_; first | (go_simp; with_reducible rfl) | (go_simp; done))); rotate_left; (· first | (simp only [Act.put, List.setIfInBounds_toArray, List.set_cons_zero, List.set_cons_succ, i64_w, i32_w]; rfl) | simp only [Act.put, List.setIfInBounds_toArray, List.set_cons_zero, List.set_cons_succ, i64_w, i32_w])))
              refine run_e rfl (fun K hK => ?_)
              refine stp_box (by rfl) HS (cs := #[(.int .i64 0), (.int .i64 0)]) (t := 24) (by first | (go_simp; done) | (go_simp; rfl)) ?_
              intro g_u w1 hg_u HS
              refine goE hK ⟨HS.out.c 5 2 (v := .slice (some ad_A) l.length c) rfl rfl, HS.out.old H1t.out, c2 (HS.out.old H2t.out), HS.out.c 4 0 (v := .int .i64 x) rfl rfl, HS.out.c 4 1 (v := .int .i64 y) rfl rfl⟩ (a' := ?_) ?_ (fun hHeld => ?_)
              rotate_left
              · first | (simp only [Act.put, List.setIfInBounds_toArray, List.set_cons_zero, List.set_cons_succ, i64_w, i32_w]; rfl) | simp only [Act.put, List.setIfInBounds_toArray, List.set_cons_zero, List.set_cons_succ, i64_w, i32_w]
              refine run_d rfl (fun K hK => ?_)
              refine stp_set (by rfl) rfl rfl HS 0 0 (cs' := #[.int .i64 0, .int .i64 0]) rfl rfl rfl (by kernel_rfl) rfl rfl ?_
              intro w1 HS
              simp only [List.set_cons_zero, List.set_cons_succ] at HS
              refine goD hK rfl ?_
              repeat (first | ((with_reducible refine gate_p ?_); refine run_p (v := ?_) rfl rfl (Or.inl ⟨by rfl, ?_⟩) (a' := ?_) ?_ ?_; rotate_left; (· (intro w'; first | (go_simp; with_reducible rfl) | (go_simp; done))); rotate_left; (· first | (simp only [Act.put, List.setIfInBounds_toArray, List.set_cons_zero, List.set_cons_succ, i64_w, i32_w]; rfl) | simp only [Act.put, List.setIfInBounds_toArray, List.set_cons_zero, List.set_cons_succ, i64_w, i32_w])) | ((with_reducible refine gate_t ?_); refine run_t (v := ?_) rfl rfl hHeld (Or.inl ⟨by rfl, ?_⟩) (a' := ?_) ?_ ?_; rotate_left; (· (intro w' hS_; first | (go_simp; with_reducible rfl) | (go_simp; done))); rotate_left; (· first | (simp only [Act.put, List.setIfInBounds_toArray, List.set_cons_zero, List.set_cons_succ, i64_w, i32_w]; rfl) | simp only [Act.put, List.setIfInBounds_toArray, List.set_cons_zero, List.set_cons_succ, i64_w, i32_w])))
              refine run_done ?_
              exact ⟨g_u, rfl, HS⟩
            · skip
              refine run_e rfl (fun K hK => ?_)
              refine stp_box (by rfl) HS (cs := #[(.int .i64 0), (.int .i64 0)]) (t := 24) (by first | (go_simp; done) | (go_simp; rfl)) ?_
              intro g_u w1 hg_u HS
              refine goE hK ⟨HS.out.c 5 2 (v := .slice (some ad_A) l.length c) rfl rfl, HS.out.old H1t.out, c2 (HS.out.old H2t.out), HS.out.c 4 0 (v := .int .i64 x) rfl rfl, HS.out.c 4 1 (v := .int .i64 y) rfl rfl⟩ (a' := ?_) ?_ (fun hHeld => ?_)
              rotate_left
              · first | (simp only [Act.put, List.setIfInBounds_toArray, List.set_cons_zero, List.set_cons_succ, i64_w, i32_w]; rfl) | simp only [Act.put, List.setIfInBounds_toArray, List.set_cons_zero, List.set_cons_succ, i64_w, i32_w]
              refine run_e rfl (fun K hK => ?_)
              refine goes_ Try.func192 (by kernel_rfl) rfl #[.agg #[.int .i64 t.2.1, .int .i64 t.2.2], .agg #[.int .i64 x, .int .i64 y]] (by rfl) rfl rfl (by simp only [List.map_toArray, List.map_cons, List.map_nil]; rfl) ?_
              refine (HP.out _).mono ?_
              rintro e_ w1 ⟨rfl, hb⟩
              refine ⟨_, rfl, ?_⟩
              have n_ := Aside0.mk (HS.out.call hb)
              have HS := n_
              refine goE hK ⟨HS.out.c 5 2 (v := .slice (some ad_A) l.length c) rfl rfl, HS.out.old H1t.out, c2 (HS.out.old H2t.out), HS.out.c 4 0 (v := .int .i64 x) rfl rfl, HS.out.c 4 1 (v := .int .i64 y) rfl rfl⟩ (a' := ?_) ?_ (fun hHeld => ?_)
              rotate_left
              · first | (simp only [Act.put, List.setIfInBounds_toArray, List.set_cons_zero, List.set_cons_succ, i64_w, i32_w]; rfl) | simp only [Act.put, List.setIfInBounds_toArray, List.set_cons_zero, List.set_cons_succ, i64_w, i32_w]
              repeat (first | ((with_reducible refine gate_p ?_); refine run_p (v := ?_) rfl rfl (Or.inl ⟨by rfl, ?_⟩) (a' := ?_) ?_ ?_; rotate_left; (· (intro w'; first | (go_simp; with_reducible rfl) | (go_simp; done))); rotate_left; (· first | (simp only [Act.put, List.setIfInBounds_toArray, List.set_cons_zero, List.set_cons_succ, i64_w, i32_w]; rfl) | simp only [Act.put, List.setIfInBounds_toArray, List.set_cons_zero, List.set_cons_succ, i64_w, i32_w])) | ((with_reducible refine gate_t ?_); refine run_t (v := ?_) rfl rfl hHeld (Or.inl ⟨by rfl, ?_⟩) (a' := ?_) ?_ ?_; rotate_left; (· (intro w' hS_; first | (go_simp; with_reducible rfl) | (go_simp; done))); rotate_left; (· first | (simp only [Act.put, List.setIfInBounds_toArray, List.set_cons_zero, List.set_cons_succ, i64_w, i32_w]; rfl) | simp only [Act.put, List.setIfInBounds_toArray, List.set_cons_zero, List.set_cons_succ, i64_w, i32_w])))
              refine run_d rfl (fun K hK => ?_)
              refine stp_set (by rfl) rfl rfl HS 0 0 (cs' := #[.int .i64 0, .int .i64 0]) rfl rfl rfl (by kernel_rfl) rfl rfl ?_
              intro w1 HS
              simp only [List.set_cons_zero, List.set_cons_succ] at HS
              refine goD hK rfl ?_
              repeat (first | ((with_reducible refine gate_p ?_); refine run_p (v := ?_) rfl rfl (Or.inl ⟨by rfl, ?_⟩) (a' := ?_) ?_ ?_; rotate_left; (· (intro w'; first | (go_simp; with_reducible rfl) | (go_simp; done))); rotate_left; (· first | (simp only [Act.put, List.setIfInBounds_toArray, List.set_cons_zero, List.set_cons_succ, i64_w, i32_w]; rfl) | simp only [Act.put, List.setIfInBounds_toArray, List.set_cons_zero, List.set_cons_succ, i64_w, i32_w])) | ((with_reducible refine gate_t ?_); refine run_t (v := ?_) rfl rfl hHeld (Or.inl ⟨by rfl, ?_⟩) (a' := ?_) ?_ ?_; rotate_left; (· (intro w' hS_; first | (go_simp; with_reducible rfl) | (go_simp; done))); rotate_left; (· first | (simp only [Act.put, List.setIfInBounds_toArray, List.set_cons_zero, List.set_cons_succ, i64_w, i32_w]; rfl) | simp only [Act.put, List.setIfInBounds_toArray, List.set_cons_zero, List.set_cons_succ, i64_w, i32_w])))
              refine run_done ?_
              have n_ := HS.out.sel [0, 1, 2, 3, 4, 5] (by decide)
              simp only [List.filterMap_cons, List.filterMap_nil, List.getElem?_cons_zero, List.getElem?_cons_succ] at n_
              exact ⟨g_u, rfl, ⟨n_⟩⟩
          clear HS
          rintro a_ w1 ⟨g_u, rfl, HS⟩
          go_wp2_with (first | ((with_reducible refine gate_store (t := 32) (p := 4) rfl ?_); refine wpList_stp (fun K hK => ?_); refine stp_set (by rfl) rfl rfl HS 3 0 (cs' := #[(.int .i64 0), (.int .i64 0), (.slice none 0 0)]) rfl rfl rfl (by kernel_rfl) rfl rfl ?_; clear HS; intro w1 HS; simp only [List.set_cons_zero, List.set_cons_succ] at HS; refine hK _ _ ?_; clear hK K))
          refine bodyPost_ret (results_cell_tmp_row rfl _ _ g_r 32 #[(.int .i64 0), (.int .i64 0), (.slice none 0 0)] (0, 0) _ rfl (HS.out.at (i := 3) rfl) Try.underlying32 rfl (by kernel_rfl)) rfl ?_
          have e_ : scS l (x, y) = none := by rw [HZ.out]; exact foldM_none _ _ _ (i + 1) (by rw [HN.out]; show scF (x, y) z t = none; unfold scF; rw [← HM.out]; rfl)
          rw [e_]
          exact ⟨none, 0, rfl, nilS (HS.out.sel [] (by decide))⟩
        | some v =>
          have f1_ := HS.out.c 4 2 (v := .slice (some ad_A) l.length c) rfl rfl
          have f2_ := HS.out.c 3 0 (v := .int .i64 x) rfl rfl
          have f3_ := HS.out.c 3 1 (v := .int .i64 y) rfl rfl
          go_wp2_with (first | (go_at_call 92; refine (specZero _ _ _).mono ?_; rintro e_ w1 ⟨rfl, hb⟩; have n_ := Aside0.mk (HS.out.call hb); clear HS f1_ f2_ f3_ hb; have HS := n_; clear n_))
          have n_ := Aside0.mk HS.out.drew
          clear HS
          have HS := n_
          clear n_
          apply region_told ((fun (A0_ : Nat → Act) (a' : Act) (w' : World) => ∃ (g_u : Nat), a' = A0_ g_u ∧ Aside0 (Mod w w' No [bx g_u 24 #[.int .i64 v.1, .int .i64 v.2], bx g_q 32 #[.int .i64 d, .int .i64 n, .slice B z.length b], rw' (KT) rfl 77 (.slice B (z).length b) (z), bx g_r 32 #[(.int .i64 0), (.int .i64 0), (.slice none 0 0)], bx g_a 24 #[.int .i64 x, .int .i64 y], bx g_p 32 #[.int .i64 d, .int .i64 n, .slice (some ad_A) l.length c]])) _)
          case h1 =>
            refine plan_start (.p 0 (.p 2 (.t 1 (.p 3 (.p 4 (.t 5 (.t 6 (.two 7 11 (.p 8 (.p 9 (.p 10 (.e 11 (.d 12 (.p 13 .done)))))) (.e 7 (.p 8 (.p 9 (.p 10 (.d 12 (.p 13 .done)))))))))))))) (fun w' => w'.cell? ⟨g_p, 2, none⟩ = some (.slice (some ad_A) l.length c) ∧ w'.cell? ⟨(ad_A.add (i * 3)).block, (ad_A.add (i * 3)).off + 1, none⟩ = some (.int .i64 t.2.1) ∧ w'.cell? ⟨(ad_A.add (i * 3)).block, (ad_A.add (i * 3)).off + 1 + 1, none⟩ = some (.int .i64 t.2.2) ∧ w'.cell? ⟨g_a, 0, none⟩ = some (.int .i64 x) ∧ w'.cell? ⟨g_a, 1, none⟩ = some (.int .i64 y)) [12] (by kernel_rfl) (by kernel_rfl) (fun c_ a_ d_ v_ w_ h_ => by cases d_ <;> exact h_) ⟨HS.out.c 4 2 (v := .slice (some ad_A) l.length c) rfl rfl, HS.out.old H1t.out, c2 (HS.out.old H2t.out), HS.out.c 3 0 (v := .int .i64 x) rfl rfl, HS.out.c 3 1 (v := .int .i64 y) rfl rfl⟩ (fun hHeld => ?_)
            repeat (first | ((with_reducible refine gate_p ?_); refine run_p (v := ?_) rfl rfl (Or.inl ⟨by rfl, ?_⟩) (a' := ?_) ?_ ?_; rotate_left; (· (intro w'; first | (go_simp; with_reducible rfl) | (go_simp; done))); rotate_left; (· first | (simp only [Act.put, List.setIfInBounds_toArray, List.set_cons_zero, List.set_cons_succ, i64_w, i32_w]; rfl) | simp only [Act.put, List.setIfInBounds_toArray, List.set_cons_zero, List.set_cons_succ, i64_w, i32_w])) | ((with_reducible refine gate_t ?_); refine run_t (v := ?_) rfl rfl hHeld (Or.inl ⟨by rfl, ?_⟩) (a' := ?_) ?_ ?_; rotate_left; (· (intro w' hS_; first | (go_simp; with_reducible rfl) | (go_simp; done))); rotate_left; (· first | (simp only [Act.put, List.setIfInBounds_toArray, List.set_cons_zero, List.set_cons_succ, i64_w, i32_w]; rfl) | simp only [Act.put, List.setIfInBounds_toArray, List.set_cons_zero, List.set_cons_succ, i64_w, i32_w])))
            refine run_two ?_ ?_
            · skip
              refine run_e rfl (fun K hK => ?_)
              refine goes_ Try.func192 (by kernel_rfl) rfl #[.agg #[.int .i64 t.2.1, .int .i64 t.2.2], .agg #[.int .i64 x, .int .i64 y]] (by rfl) rfl rfl (by simp only [List.map_toArray, List.map_cons, List.map_nil]; rfl) ?_
              refine (HP.out _).mono ?_
              rintro e_ w1 ⟨rfl, hb⟩
              refine ⟨_, rfl, ?_⟩
              have n_ := Aside0.mk (HS.out.call hb)
              have HS := n_
              refine goE hK ⟨HS.out.c 4 2 (v := .slice (some ad_A) l.length c) rfl rfl, HS.out.old H1t.out, c2 (HS.out.old H2t.out), HS.out.c 3 0 (v := .int .i64 x) rfl rfl, HS.out.c 3 1 (v := .int .i64 y) rfl rfl⟩ (a' := ?_) ?_ (fun hHeld => ?_)
              rotate_left
              · first | (simp only [Act.put, List.setIfInBounds_toArray, List.set_cons_zero, List.set_cons_succ, i64_w, i32_w]; rfl) | simp only [Act.put, List.setIfInBounds_toArray, List.set_cons_zero, List.set_cons_succ, i64_w, i32_w]
              repeat (first | ((with_reducible refine gate_p ?_); refine run_p (v := ?_) rfl rfl (Or.inl ⟨by rfl, ?_⟩) (a' := ?_) ?_ ?_; rotate_left; (· (intro w'; first | (go_simp; with_reducible rfl) | (go_simp; done))); rotate_left; (· first | (simp only [Act.put, List.setIfInBounds_toArray, List.set_cons_zero, List.set_cons_succ, i64_w, i32_w]; rfl) | simp only [Act.put, List.setIfInBounds_toArray, List.set_cons_zero, List.set_cons_succ, i64_w, i32_w])) | ((with_reducible refine gate_t ?_); refine run_t (v := ?_) rfl rfl hHeld (Or.inl ⟨by rfl, ?_⟩) (a' := ?_) ?_ ?_; rotate_left; (· (intro w' hS_; first | (go_simp; with_reducible rfl) | (go_simp; done))); rotate_left; (· first | (simp only [Act.put, List.setIfInBounds_toArray, List.set_cons_zero, List.set_cons_succ, i64_w, i32_w]; rfl) | simp only [Act.put, List.setIfInBounds_toArray, List.set_cons_zero, List.set_cons_succ, i64_w, i32_w])))
              refine run_e rfl (fun K hK => ?_)
              refine stp_box (by rfl) HS (cs := #[(.int .i64 0), (.int .i64 0)]) (t := 24) (by first | (go_simp; done) | (go_simp; rfl)) ?_
              intro g_u w1 hg_u HS
              refine goE hK ⟨HS.out.c 5 2 (v := .slice (some ad_A) l.length c) rfl rfl, HS.out.old H1t.out, c2 (HS.out.old H2t.out), HS.out.c 4 0 (v := .int .i64 x) rfl rfl, HS.out.c 4 1 (v := .int .i64 y) rfl rfl⟩ (a' := ?_) ?_ (fun hHeld => ?_)
              rotate_left
              · first | (simp only [Act.put, List.setIfInBounds_toArray, List.set_cons_zero, List.set_cons_succ, i64_w, i32_w]; rfl) | simp only [Act.put, List.setIfInBounds_toArray, List.set_cons_zero, List.set_cons_succ, i64_w, i32_w]
              refine run_d rfl (fun K hK => ?_)
              refine stp_set (by rfl) rfl rfl HS 0 0 (cs' := #[.int .i64 v.1, .int .i64 v.2]) rfl rfl rfl (by kernel_rfl) rfl rfl ?_
              intro w1 HS
              simp only [List.set_cons_zero, List.set_cons_succ] at HS
              refine goD hK rfl ?_
              repeat (first | ((with_reducible refine gate_p ?_); refine run_p (v := ?_) rfl rfl (Or.inl ⟨by rfl, ?_⟩) (a' := ?_) ?_ ?_; rotate_left; (· (intro w'; first | (go_simp; with_reducible rfl) | (go_simp; done))); rotate_left; (· first | (simp only [Act.put, List.setIfInBounds_toArray, List.set_cons_zero, List.set_cons_succ, i64_w, i32_w]; rfl) | simp only [Act.put, List.setIfInBounds_toArray, List.set_cons_zero, List.set_cons_succ, i64_w, i32_w])) | ((with_reducible refine gate_t ?_); refine run_t (v := ?_) rfl rfl hHeld (Or.inl ⟨by rfl, ?_⟩) (a' := ?_) ?_ ?_; rotate_left; (· (intro w' hS_; first | (go_simp; with_reducible rfl) | (go_simp; done))); rotate_left; (· first | (simp only [Act.put, List.setIfInBounds_toArray, List.set_cons_zero, List.set_cons_succ, i64_w, i32_w]; rfl) | simp only [Act.put, List.setIfInBounds_toArray, List.set_cons_zero, List.set_cons_succ, i64_w, i32_w])))
              refine run_done ?_
              exact ⟨g_u, rfl, HS⟩
            · skip
              refine run_e rfl (fun K hK => ?_)
              refine stp_box (by rfl) HS (cs := #[(.int .i64 0), (.int .i64 0)]) (t := 24) (by first | (go_simp; done) | (go_simp; rfl)) ?_
              intro g_u w1 hg_u HS
              refine goE hK ⟨HS.out.c 5 2 (v := .slice (some ad_A) l.length c) rfl rfl, HS.out.old H1t.out, c2 (HS.out.old H2t.out), HS.out.c 4 0 (v := .int .i64 x) rfl rfl, HS.out.c 4 1 (v := .int .i64 y) rfl rfl⟩ (a' := ?_) ?_ (fun hHeld => ?_)
              rotate_left
              · first | (simp only [Act.put, List.setIfInBounds_toArray, List.set_cons_zero, List.set_cons_succ, i64_w, i32_w]; rfl) | simp only [Act.put, List.setIfInBounds_toArray, List.set_cons_zero, List.set_cons_succ, i64_w, i32_w]
              refine run_e rfl (fun K hK => ?_)
              refine goes_ Try.func192 (by kernel_rfl) rfl #[.agg #[.int .i64 t.2.1, .int .i64 t.2.2], .agg #[.int .i64 x, .int .i64 y]] (by rfl) rfl rfl (by simp only [List.map_toArray, List.map_cons, List.map_nil]; rfl) ?_
              refine (HP.out _).mono ?_
              rintro e_ w1 ⟨rfl, hb⟩
              refine ⟨_, rfl, ?_⟩
              have n_ := Aside0.mk (HS.out.call hb)
              have HS := n_
              refine goE hK ⟨HS.out.c 5 2 (v := .slice (some ad_A) l.length c) rfl rfl, HS.out.old H1t.out, c2 (HS.out.old H2t.out), HS.out.c 4 0 (v := .int .i64 x) rfl rfl, HS.out.c 4 1 (v := .int .i64 y) rfl rfl⟩ (a' := ?_) ?_ (fun hHeld => ?_)
              rotate_left
              · first | (simp only [Act.put, List.setIfInBounds_toArray, List.set_cons_zero, List.set_cons_succ, i64_w, i32_w]; rfl) | simp only [Act.put, List.setIfInBounds_toArray, List.set_cons_zero, List.set_cons_succ, i64_w, i32_w]
              repeat (first | ((with_reducible refine gate_p ?_); refine run_p (v := ?_) rfl rfl (Or.inl ⟨by rfl, ?_⟩) (a' := ?_) ?_ ?_; rotate_left; (· (intro w'; first | (go_simp; with_reducible rfl) | (go_simp; done))); rotate_left; (· first | (simp only [Act.put, List.setIfInBounds_toArray, List.set_cons_zero, List.set_cons_succ, i64_w, i32_w]; rfl) | simp only [Act.put, List.setIfInBounds_toArray, List.set_cons_zero, List.set_cons_succ, i64_w, i32_w])) | ((with_reducible refine gate_t ?_); refine run_t (v := ?_) rfl rfl hHeld (Or.inl ⟨by rfl, ?_⟩) (a' := ?_) ?_ ?_; rotate_left; (· (intro w' hS_; first | (go_simp; with_reducible rfl) | (go_simp; done))); rotate_left; (· first | (simp only [Act.put, List.setIfInBounds_toArray, List.set_cons_zero, List.set_cons_succ, i64_w, i32_w]; rfl) | simp only [Act.put, List.setIfInBounds_toArray, List.set_cons_zero, List.set_cons_succ, i64_w, i32_w])))
              refine run_d rfl (fun K hK => ?_)
              refine stp_set (by rfl) rfl rfl HS 0 0 (cs' := #[.int .i64 v.1, .int .i64 v.2]) rfl rfl rfl (by kernel_rfl) rfl rfl ?_
              intro w1 HS
              simp only [List.set_cons_zero, List.set_cons_succ] at HS
              refine goD hK rfl ?_
              repeat (first | ((with_reducible refine gate_p ?_); refine run_p (v := ?_) rfl rfl (Or.inl ⟨by rfl, ?_⟩) (a' := ?_) ?_ ?_; rotate_left; (· (intro w'; first | (go_simp; with_reducible rfl) | (go_simp; done))); rotate_left; (· first | (simp only [Act.put, List.setIfInBounds_toArray, List.set_cons_zero, List.set_cons_succ, i64_w, i32_w]; rfl) | simp only [Act.put, List.setIfInBounds_toArray, List.set_cons_zero, List.set_cons_succ, i64_w, i32_w])) | ((with_reducible refine gate_t ?_); refine run_t (v := ?_) rfl rfl hHeld (Or.inl ⟨by rfl, ?_⟩) (a' := ?_) ?_ ?_; rotate_left; (· (intro w' hS_; first | (go_simp; with_reducible rfl) | (go_simp; done))); rotate_left; (· first | (simp only [Act.put, List.setIfInBounds_toArray, List.set_cons_zero, List.set_cons_succ, i64_w, i32_w]; rfl) | simp only [Act.put, List.setIfInBounds_toArray, List.set_cons_zero, List.set_cons_succ, i64_w, i32_w])))
              refine run_done ?_
              have n_ := HS.out.sel [0, 1, 2, 3, 4, 5] (by decide)
              simp only [List.filterMap_cons, List.filterMap_nil, List.getElem?_cons_zero, List.getElem?_cons_succ] at n_
              exact ⟨g_u, rfl, ⟨n_⟩⟩
          clear HS
          rintro a_ w1 ⟨g_u, rfl, HS⟩
          go_wp2
          have n_ := Aside0.mk HS.out.drew
          clear HS
          have HS := n_
          clear n_
          refine plan_start (.p 0 (.p 2 (.p 4 (.t 1 (.t 3 (.p 5 (.p 6 (.t 7 (.t 8 (.p 9 (.e 10 (.d 11 (.p 12 (.d 13 .done)))))))))))))) (fun w' => w'.cell? ⟨g_q, 2, none⟩ = some (.slice B z.length b) ∧ w'.cell? ⟨g_p, 2, none⟩ = some (.slice (some ad_A) l.length c) ∧ w'.cell? (ad_A.add (i * 3)) = some (.string t.1) ∧ w'.cell? ⟨g_u, 0, none⟩ = some (.int .i64 v.1) ∧ w'.cell? ⟨g_u, 1, none⟩ = some (.int .i64 v.2)) [11, 13] (by kernel_rfl) (by kernel_rfl) (fun c_ a_ d_ v_ w_ h_ => by cases d_ <;> exact h_) ⟨HS.out.c 1 2 (v := .slice B z.length b) rfl rfl, HS.out.c 5 2 (v := .slice (some ad_A) l.length c) rfl rfl, HS.out.old H0t.out, HS.out.c 0 0 (v := .int .i64 v.1) rfl rfl, HS.out.c 0 1 (v := .int .i64 v.2) rfl rfl⟩ (fun hHeld => ?_)
          repeat (first | ((with_reducible refine gate_p ?_); refine run_p (v := ?_) rfl rfl (Or.inl ⟨by rfl, ?_⟩) (a' := ?_) ?_ ?_; rotate_left; (· (intro w'; first | (go_simp; with_reducible rfl) | (go_simp; done))); rotate_left; (· first | (simp only [Act.put, List.setIfInBounds_toArray, List.set_cons_zero, List.set_cons_succ, i64_w, i32_w]; rfl) | simp only [Act.put, List.setIfInBounds_toArray, List.set_cons_zero, List.set_cons_succ, i64_w, i32_w])) | ((with_reducible refine gate_t ?_); refine run_t (v := ?_) rfl rfl hHeld (Or.inl ⟨by rfl, ?_⟩) (a' := ?_) ?_ ?_; rotate_left; (· (intro w' hS_; first | (go_simp; with_reducible rfl) | (go_simp; done))); rotate_left; (· first | (simp only [Act.put, List.setIfInBounds_toArray, List.set_cons_zero, List.set_cons_succ, i64_w, i32_w]; rfl) | simp only [Act.put, List.setIfInBounds_toArray, List.set_cons_zero, List.set_cons_succ, i64_w, i32_w])))
          refine run_e rfl (fun K hK => ?_)
          refine stp_lit (KT) rfl 77 (by rfl) HS (xs := [((t.1, v) : Tm)]) (inner := [.string t.1, .int .i64 v.1, .int .i64 v.2]) (by first | (go_simp; done) | (go_simp; rfl)) (fun W base ok => Reps.snoc (Reps.none _ _) (KT_M (t.1, v) W base ok) rfl) (by simp) ?_
          clear HS
          intro A_k c_k w1 HS
          refine goE hK ⟨HS.out.c 2 2 (v := .slice B z.length b) rfl rfl, HS.out.c 6 2 (v := .slice (some ad_A) l.length c) rfl rfl, HS.out.old H0t.out, HS.out.c 1 0 (v := .int .i64 v.1) rfl rfl, HS.out.c 1 1 (v := .int .i64 v.2) rfl rfl⟩ (a' := ?_) ?_ (fun hHeld => ?_)
          rotate_left
          · first | (simp only [Act.put, List.setIfInBounds_toArray, List.set_cons_zero, List.set_cons_succ, i64_w, i32_w]; rfl) | simp only [Act.put, List.setIfInBounds_toArray, List.set_cons_zero, List.set_cons_succ, i64_w, i32_w]
          clear hK K
          refine run_d rfl (fun K hK => ?_)
          refine stp_rows KT rfl (fun _ _ _ _ _ h => h) (by rfl) HS 3 rfl (.tmp 39) (.tmp 48) 30 (.agg #[(.string ⟨#[]⟩), (.int .i64 0), (.int .i64 0)]) 32 rfl Try.underlying30 infoTerm (by kernel_rfl) [((t.1, v) : Tm)] rfl rfl (HS.out.reads 0 rfl) (by show (z.length + 1) * 32 ≤ _; omega) ?_
          clear HS
          intro A_y' c_y' y' w1 Ny' HS
          simp only [List.set_cons_zero, List.set_cons_succ] at HS
          refine goD hK (a' := ?_) ?_ ?_
          rotate_left
          · first | (simp only [Act.put, List.setIfInBounds_toArray, List.set_cons_zero, List.set_cons_succ, i64_w, i32_w]; rfl) | simp only [Act.put, List.setIfInBounds_toArray, List.set_cons_zero, List.set_cons_succ, i64_w, i32_w]
          clear hK K
          repeat (first | ((with_reducible refine gate_p ?_); refine run_p (v := ?_) rfl rfl (Or.inl ⟨by rfl, ?_⟩) (a' := ?_) ?_ ?_; rotate_left; (· (intro w'; first | (go_simp; with_reducible rfl) | (go_simp; done))); rotate_left; (· first | (simp only [Act.put, List.setIfInBounds_toArray, List.set_cons_zero, List.set_cons_succ, i64_w, i32_w]; rfl) | simp only [Act.put, List.setIfInBounds_toArray, List.set_cons_zero, List.set_cons_succ, i64_w, i32_w])) | ((with_reducible refine gate_t ?_); refine run_t (v := ?_) rfl rfl hHeld (Or.inl ⟨by rfl, ?_⟩) (a' := ?_) ?_ ?_; rotate_left; (· (intro w' hS_; first | (go_simp; with_reducible rfl) | (go_simp; done))); rotate_left; (· first | (simp only [Act.put, List.setIfInBounds_toArray, List.set_cons_zero, List.set_cons_succ, i64_w, i32_w]; rfl) | simp only [Act.put, List.setIfInBounds_toArray, List.set_cons_zero, List.set_cons_succ, i64_w, i32_w])))
          refine run_d rfl (fun K hK => ?_)
          refine stp_set (by rfl) rfl rfl HS 2 2 (cs' := #[.int .i64 d, .int .i64 n, (.slice A_y' y'.length c_y')]) rfl rfl rfl (by kernel_rfl) rfl rfl ?_
          clear HS
          intro w1 HS
          simp only [List.set_cons_zero, List.set_cons_succ] at HS
          refine goD hK rfl ?_
          clear hK K
          refine run_done ?_
          clear hHeld
          go_wp2
          have n_ := Aside0.mk (HS.out.sel [2, 3, 4, 5, 6] (by decide)); clear HS; have HS := n_; clear n_; simp only [List.filterMap_cons, List.filterMap_nil, List.getElem?_cons_zero, List.getElem?_cons_succ] at HS
          go_roundw
          case rel => exact ⟨i + 1, A_y', c_y', y', by omega, by go_num, ⟨by rw [HN.out, Ny'.out]; show scF (x, y) z t = _; unfold scF; rw [← HM.out]; rfl⟩, HS⟩
          case measure => simp [intOf]; omega
      · obtain rfl : i = l.length := by omega
        have f1_ := HS.out.c 4 2 (v := .slice A l.length c) rfl rfl
        have f2_ := HS.out.c 0 0 (v := .int .i64 d) rfl rfl
        have f3_ := HS.out.c 0 1 (v := .int .i64 n) rfl rfl
        have f4_ := HS.out.c 0 2 (v := .slice B z.length b) rfl rfl
        go_wp2_with (first | ((with_reducible refine gate_store (t := 32) (p := 4) rfl ?_); refine wpList_stp (fun K hK => ?_); refine stp_set (by rfl) rfl rfl HS 2 0 (cs' := #[.int .i64 d, .int .i64 n, .slice B z.length b]) rfl rfl rfl (by kernel_rfl) rfl rfl ?_; clear HS f1_ f2_ f3_ f4_; intro w1 HS; simp only [List.set_cons_zero, List.set_cons_succ] at HS; refine hK _ _ ?_; clear hK K))
        refine bodyPost_ret (results_cell_tmp_row rfl _ _ g_r 32 #[.int .i64 d, .int .i64 n, .slice B z.length b] (0, 0) _ rfl (HS.out.at (i := 2) rfl) Try.underlying32 rfl (by kernel_rfl)) rfl ?_
        have e_ : scS l (x, y) = some z := by rw [HZ.out]; have := HY.out; rwa [List.take_length] at this
        rw [e_]
        exact ⟨B, b, rfl, HS.out.sel [1] (by decide)⟩
end Go.Proofs.Ytcklblagklojhaa.H

