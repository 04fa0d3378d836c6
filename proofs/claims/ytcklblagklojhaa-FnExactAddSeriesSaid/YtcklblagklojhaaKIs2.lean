/- What the program tells of a series being one. Conditions: the argument's row is read. -/
import Derived.Test.YtcklblagklojhaaKIs
namespace Go.Proofs.Ytcklblagklojhaa.H
open Go.RowKit Go.Proofs.YtcklblagklojhaaW.PrintWords Go.Proofs.YtcklblagklojhaaW.PrintLast Go.Proofs.YtcklblagklojhaaW.PrintMore Go.Proofs.Ytcklblagklojhaa.M
attribute [local go_sem] max2_int min2_int max_two min_two max_three min_three max_four min_four
set_option linter.unusedVariables false
set_option linter.unusedSimpArgs false
set_option maxRecDepth 100000 in
set_option maxHeartbeats 8000000 in
theorem implTerms (d n : Nat) (hd : 1 ≤ d ∧ d ≤ 3) (hn : n ≤ 5) (A : Option Addr) (c : Nat) (l : Ts) (w : World) (hr : KT.C w A l.length l) (hb : bnd l = true) :
    Calls Try.prog 111 #[.int .i64 (d : Int), .int .i64 (n : Int), .slice A l.length c] w fun e w' => e = .returned (.bool (isTs d n l)) ∧ Below w.heap.size w w' := by
  have HR := Aside0.mk hr
  have HN := Aside0.mk hb
  have hll := (bnd_iff.1 hb).1
  have HS := Aside0.mk (Sep.refl w)
  clear hr hb
  go_enter Try.func111, Try.ntmps111
  go_wp2
  go_loopw [11] (fun v w' => ∃ k : Nat, k ≤ l.length ∧ v = .int .i64 (k : Int) ∧ Aside0 (∀ j, j < k → okAt d n l j = true) ∧ Aside0 (Mod w w' No [])) (fun v _ => l.length - (intOf v).toNat)
  case atStart => exact ⟨0, by omega, rfl, ⟨fun j hj => by omega⟩, HS⟩
  case round =>
    clear HS
    obtain ⟨k, hk, rfl, HY, HS⟩ := hrel
    by_cases hlt : k < l.length
    · have hs1 := bnd_get HN.out k
      obtain ⟨ad_l, ea_, h0_, h1_, h2_⟩ := tm_at HR.out k (hlt)
      cases ea_
      obtain ⟨t, ht_⟩ : ∃ t_, t_ = l.getD k zT := ⟨_, rfl⟩
      rw [← ht_] at h0_ h1_ h2_
      have Et := Aside0.mk ht_; have H0t := Aside0.mk h0_; have H1t := Aside0.mk h1_; have H2t := Aside0.mk h2_
      clear ht_ h0_ h1_ h2_
      have HK := Aside0.mk (okAt_eq d n l k Et.out)
      have HNO := Aside0.mk (@isTs_no d n l k hlt)
      rw [← Et.out] at hs1
      have hsz : t.1.size ≤ 9223372036854775807 := by omega
      have hd9 : d ≤ 9 := by omega
      cases h1 : (isWd d t.1 && decide (t.1.size ≤ n)) with
      | false =>
        have f1_ := HS.out.old H0t.out
        have f2_ := HS.out.old H1t.out
        have f3_ := HS.out.old H2t.out
        go_wp2_with (first | ((with_reducible refine gate_dst (N := 8) rfl ?_); refine wpList_stp (fun K hK => ?_); refine stp_box (by rfl) HS (cs := #[(.string ⟨#[]⟩), (.int .i64 0), (.int .i64 0)]) (t := 77) (by first | (go_simp; done) | (go_simp; rfl)) ?_; clear HS f1_ f2_ f3_; intro g_t w1 hg_t HS; refine hK _ _ ?_; clear hK K) | ((with_reducible refine gate_store (t := 77) (p := 8) rfl ?_); refine wpList_stp (fun K hK => ?_); refine stp_set (by rfl) rfl rfl HS 0 0 (cs' := #[.string t.1, .int .i64 t.2.1, .int .i64 t.2.2]) rfl rfl rfl (by kernel_rfl) rfl rfl ?_; clear HS; intro w1 HS; simp only [List.set_cons_zero, List.set_cons_succ] at HS; refine hK _ _ ?_; clear hK K))
        have n_ := Aside0.mk HS.out.drew
        clear HS
        have HS := n_
        clear n_
        refine plan_start (.p 0 (.p 1 (.p 3 (.t 2 (.d 4 (.p 5 (.p 6 (.p 7 (.p 8 (.p 9 (.p 10 (.p 11 (.p 12 (.p 13 (.p 14 (.p 15 (.p 16 (.p 17 (.p 18 (.p 19 (.p 20 (.p 21 (.p 22 (.p 23 (.p 24 (.p 25 (.p 26 (.p 27 (.p 28 (.p 29 (.p 30 (.p 31 (.p 32 (.p 33 .done)))))))))))))))))))))))))))))))))) (fun w' => w'.cell? ⟨g_t, 0, none⟩ = some (.string t.1)) [4] (by kernel_rfl) (by kernel_rfl) (fun c_ a_ d_ v_ w_ h_ => by cases d_ <;> exact h_) (HS.out.c 0 0 (v := .string t.1) rfl rfl) (fun hHeld => ?_)
        repeat (first | ((with_reducible refine gate_p ?_); refine run_p (v := ?_) rfl rfl (Or.inl ⟨by rfl, ?_⟩) (a' := ?_) ?_ ?_; rotate_left; (· (intro w'; first | (go_simp; with_reducible rfl) | (go_simp; done))); rotate_left; (· first | (simp only [Act.put, List.setIfInBounds_toArray, List.set_cons_zero, List.set_cons_succ, i64_w, i32_w]; rfl) | simp only [Act.put, List.setIfInBounds_toArray, List.set_cons_zero, List.set_cons_succ, i64_w, i32_w])) | ((with_reducible refine gate_p ?_); refine run_p (v := undef) rfl rfl (Or.inr ⟨by rfl, rfl⟩) (a' := ?_) ?_ ?_; rotate_left; (· first | (simp only [Act.put, List.setIfInBounds_toArray, List.set_cons_zero, List.set_cons_succ, i64_w, i32_w]; rfl) | simp only [Act.put, List.setIfInBounds_toArray, List.set_cons_zero, List.set_cons_succ, i64_w, i32_w])) | ((with_reducible refine gate_t ?_); refine run_t (v := ?_) rfl rfl hHeld (Or.inl ⟨by rfl, ?_⟩) (a' := ?_) ?_ ?_; rotate_left; (· (intro w' hS_; first | (go_simp; with_reducible rfl) | (go_simp; done))); rotate_left; (· first | (simp only [Act.put, List.setIfInBounds_toArray, List.set_cons_zero, List.set_cons_succ, i64_w, i32_w]; rfl) | simp only [Act.put, List.setIfInBounds_toArray, List.set_cons_zero, List.set_cons_succ, i64_w, i32_w])))
        refine run_d rfl (fun K hK => ?_)
        refine goes_ Try.func125 (by kernel_rfl) rfl #[(.int .i64 (d : Int)), (.string t.1), (.int .i64 (n : Int))] (by rfl) rfl rfl (by simp only [List.map_toArray, List.map_cons, List.map_nil]; rfl) ?_
        refine (implWord d n hd9 _ hsz _).mono ?_
        rintro e_ w1 ⟨rfl, hb⟩
        refine ⟨_, rfl, ?_⟩
        have n_ := Aside0.mk (HS.out.call hb)
        clear HS hb
        have HS := n_
        clear n_
        refine goD hK (a' := ?_) ?_ ?_
        rotate_left
        · first | (simp only [Act.put, List.setIfInBounds_toArray, List.set_cons_zero, List.set_cons_succ, i64_w, i32_w]; rfl) | simp only [Act.put, List.setIfInBounds_toArray, List.set_cons_zero, List.set_cons_succ, i64_w, i32_w]
        clear hK K
        repeat (first | ((with_reducible refine gate_p ?_); refine run_p (v := ?_) rfl rfl (Or.inl ⟨by rfl, ?_⟩) (a' := ?_) ?_ ?_; rotate_left; (· (intro w'; first | (go_simp; with_reducible rfl) | (go_simp; done))); rotate_left; (· first | (simp only [Act.put, List.setIfInBounds_toArray, List.set_cons_zero, List.set_cons_succ, i64_w, i32_w]; rfl) | simp only [Act.put, List.setIfInBounds_toArray, List.set_cons_zero, List.set_cons_succ, i64_w, i32_w])) | ((with_reducible refine gate_p ?_); refine run_p (v := undef) rfl rfl (Or.inr ⟨by rfl, rfl⟩) (a' := ?_) ?_ ?_; rotate_left; (· first | (simp only [Act.put, List.setIfInBounds_toArray, List.set_cons_zero, List.set_cons_succ, i64_w, i32_w]; rfl) | simp only [Act.put, List.setIfInBounds_toArray, List.set_cons_zero, List.set_cons_succ, i64_w, i32_w])) | ((with_reducible refine gate_t ?_); refine run_t (v := ?_) rfl rfl hHeld (Or.inl ⟨by rfl, ?_⟩) (a' := ?_) ?_ ?_; rotate_left; (· (intro w' hS_; first | (go_simp; with_reducible rfl) | (go_simp; done))); rotate_left; (· first | (simp only [Act.put, List.setIfInBounds_toArray, List.set_cons_zero, List.set_cons_succ, i64_w, i32_w]; rfl) | simp only [Act.put, List.setIfInBounds_toArray, List.set_cons_zero, List.set_cons_succ, i64_w, i32_w])))
        refine run_done ?_
        clear hHeld
        go_wp2
        go_ret
        exact ⟨ret_bool (HNO.out (by rw [HK.out, ← Bool.and_assoc, h1]; simp)).symm, HS.out.below⟩
      | true =>
        cases h3 : isFr t.2.1 t.2.2 with
        | false =>
          have f1_ := HS.out.old H0t.out
          have f2_ := HS.out.old H1t.out
          have f3_ := HS.out.old H2t.out
          go_wp2_with (first | ((with_reducible refine gate_dst (N := 8) rfl ?_); refine wpList_stp (fun K hK => ?_); refine stp_box (by rfl) HS (cs := #[(.string ⟨#[]⟩), (.int .i64 0), (.int .i64 0)]) (t := 77) (by first | (go_simp; done) | (go_simp; rfl)) ?_; clear HS f1_ f2_ f3_; intro g_t w1 hg_t HS; refine hK _ _ ?_; clear hK K) | ((with_reducible refine gate_store (t := 77) (p := 8) rfl ?_); refine wpList_stp (fun K hK => ?_); refine stp_set (by rfl) rfl rfl HS 0 0 (cs' := #[.string t.1, .int .i64 t.2.1, .int .i64 t.2.2]) rfl rfl rfl (by kernel_rfl) rfl rfl ?_; clear HS; intro w1 HS; simp only [List.set_cons_zero, List.set_cons_succ] at HS; refine hK _ _ ?_; clear hK K))
          have n_ := Aside0.mk HS.out.drew
          clear HS
          have HS := n_
          clear n_
          refine plan_start (.p 0 (.p 1 (.p 3 (.t 2 (.e 4 (.p 5 (.p 6 (.p 7 (.t 8 (.d 9 (.p 10 (.p 11 (.p 12 (.p 13 (.p 14 (.p 15 (.p 16 (.p 17 (.p 18 (.p 19 (.p 20 (.p 21 (.p 22 (.p 23 (.p 24 (.p 25 (.p 26 (.p 27 (.p 28 (.p 29 (.p 30 (.p 31 (.p 32 (.p 33 .done)))))))))))))))))))))))))))))))))) (fun w' => w'.cell? ⟨g_t, 0, none⟩ = some (.string t.1) ∧ w'.cell? ⟨g_t, 1, none⟩ = some (.int .i64 t.2.1) ∧ w'.cell? ⟨g_t, 2, none⟩ = some (.int .i64 t.2.2)) [9] (by kernel_rfl) (by kernel_rfl) (fun c_ a_ d_ v_ w_ h_ => by cases d_ <;> exact h_) ⟨HS.out.c 0 0 (v := .string t.1) rfl rfl, HS.out.c 0 1 (v := .int .i64 t.2.1) rfl rfl, HS.out.c 0 2 (v := .int .i64 t.2.2) rfl rfl⟩ (fun hHeld => ?_)
          repeat (first | ((with_reducible refine gate_p ?_); refine run_p (v := ?_) rfl rfl (Or.inl ⟨by rfl, ?_⟩) (a' := ?_) ?_ ?_; rotate_left; (· (intro w'; first | (go_simp; with_reducible rfl) | (go_simp; done))); rotate_left; (· first | (simp only [Act.put, List.setIfInBounds_toArray, List.set_cons_zero, List.set_cons_succ, i64_w, i32_w]; rfl) | simp only [Act.put, List.setIfInBounds_toArray, List.set_cons_zero, List.set_cons_succ, i64_w, i32_w])) | ((with_reducible refine gate_p ?_); refine run_p (v := undef) rfl rfl (Or.inr ⟨by rfl, rfl⟩) (a' := ?_) ?_ ?_; rotate_left; (· first | (simp only [Act.put, List.setIfInBounds_toArray, List.set_cons_zero, List.set_cons_succ, i64_w, i32_w]; rfl) | simp only [Act.put, List.setIfInBounds_toArray, List.set_cons_zero, List.set_cons_succ, i64_w, i32_w])) | ((with_reducible refine gate_t ?_); refine run_t (v := ?_) rfl rfl hHeld (Or.inl ⟨by rfl, ?_⟩) (a' := ?_) ?_ ?_; rotate_left; (· (intro w' hS_; first | (go_simp; with_reducible rfl) | (go_simp; done))); rotate_left; (· first | (simp only [Act.put, List.setIfInBounds_toArray, List.set_cons_zero, List.set_cons_succ, i64_w, i32_w]; rfl) | simp only [Act.put, List.setIfInBounds_toArray, List.set_cons_zero, List.set_cons_succ, i64_w, i32_w])))
          refine run_e rfl (fun K hK => ?_)
          refine goes_ Try.func125 (by kernel_rfl) rfl #[(.int .i64 (d : Int)), (.string t.1), (.int .i64 (n : Int))] (by rfl) rfl rfl (by simp only [List.map_toArray, List.map_cons, List.map_nil]; rfl) ?_
          refine (implWord d n hd9 _ hsz _).mono ?_
          rintro e_ w1 ⟨rfl, hb⟩
          refine ⟨_, rfl, ?_⟩
          have n_ := Aside0.mk (HS.out.call hb)
          clear HS hb
          have HS := n_
          clear n_
          refine goE hK ⟨HS.out.c 0 0 (v := .string t.1) rfl rfl, HS.out.c 0 1 (v := .int .i64 t.2.1) rfl rfl, HS.out.c 0 2 (v := .int .i64 t.2.2) rfl rfl⟩ (a' := ?_) ?_ (fun hHeld => ?_)
          rotate_left
          · first | (simp only [Act.put, List.setIfInBounds_toArray, List.set_cons_zero, List.set_cons_succ, i64_w, i32_w]; rfl) | simp only [Act.put, List.setIfInBounds_toArray, List.set_cons_zero, List.set_cons_succ, i64_w, i32_w]
          clear hK K
          repeat (first | ((with_reducible refine gate_p ?_); refine run_p (v := ?_) rfl rfl (Or.inl ⟨by rfl, ?_⟩) (a' := ?_) ?_ ?_; rotate_left; (· (intro w'; first | (go_simp; with_reducible rfl) | (go_simp; done))); rotate_left; (· first | (simp only [Act.put, List.setIfInBounds_toArray, List.set_cons_zero, List.set_cons_succ, i64_w, i32_w]; rfl) | simp only [Act.put, List.setIfInBounds_toArray, List.set_cons_zero, List.set_cons_succ, i64_w, i32_w])) | ((with_reducible refine gate_p ?_); refine run_p (v := undef) rfl rfl (Or.inr ⟨by rfl, rfl⟩) (a' := ?_) ?_ ?_; rotate_left; (· first | (simp only [Act.put, List.setIfInBounds_toArray, List.set_cons_zero, List.set_cons_succ, i64_w, i32_w]; rfl) | simp only [Act.put, List.setIfInBounds_toArray, List.set_cons_zero, List.set_cons_succ, i64_w, i32_w])) | ((with_reducible refine gate_t ?_); refine run_t (v := ?_) rfl rfl hHeld (Or.inl ⟨by rfl, ?_⟩) (a' := ?_) ?_ ?_; rotate_left; (· (intro w' hS_; first | (go_simp; with_reducible rfl) | (go_simp; done))); rotate_left; (· first | (simp only [Act.put, List.setIfInBounds_toArray, List.set_cons_zero, List.set_cons_succ, i64_w, i32_w]; rfl) | simp only [Act.put, List.setIfInBounds_toArray, List.set_cons_zero, List.set_cons_succ, i64_w, i32_w])))
          refine run_d rfl (fun K hK => ?_)
          refine goes_ Try.func137 (by kernel_rfl) rfl #[.agg #[.int .i64 t.2.1, .int .i64 t.2.2]] (by rfl) rfl rfl (by simp only [List.map_toArray, List.map_cons, List.map_nil]; rfl) ?_
          refine (implIsFraction _ _ _).mono ?_
          rintro e_ w1 ⟨rfl, hb⟩
          refine ⟨_, rfl, ?_⟩
          have n_ := Aside0.mk (HS.out.call hb)
          clear HS hb
          have HS := n_
          clear n_
          refine goD hK (a' := ?_) ?_ ?_
          rotate_left
          · first | (simp only [Act.put, List.setIfInBounds_toArray, List.set_cons_zero, List.set_cons_succ, i64_w, i32_w]; rfl) | simp only [Act.put, List.setIfInBounds_toArray, List.set_cons_zero, List.set_cons_succ, i64_w, i32_w]
          clear hK K
          repeat (first | ((with_reducible refine gate_p ?_); refine run_p (v := ?_) rfl rfl (Or.inl ⟨by rfl, ?_⟩) (a' := ?_) ?_ ?_; rotate_left; (· (intro w'; first | (go_simp; with_reducible rfl) | (go_simp; done))); rotate_left; (· first | (simp only [Act.put, List.setIfInBounds_toArray, List.set_cons_zero, List.set_cons_succ, i64_w, i32_w]; rfl) | simp only [Act.put, List.setIfInBounds_toArray, List.set_cons_zero, List.set_cons_succ, i64_w, i32_w])) | ((with_reducible refine gate_p ?_); refine run_p (v := undef) rfl rfl (Or.inr ⟨by rfl, rfl⟩) (a' := ?_) ?_ ?_; rotate_left; (· first | (simp only [Act.put, List.setIfInBounds_toArray, List.set_cons_zero, List.set_cons_succ, i64_w, i32_w]; rfl) | simp only [Act.put, List.setIfInBounds_toArray, List.set_cons_zero, List.set_cons_succ, i64_w, i32_w])) | ((with_reducible refine gate_t ?_); refine run_t (v := ?_) rfl rfl hHeld (Or.inl ⟨by rfl, ?_⟩) (a' := ?_) ?_ ?_; rotate_left; (· (intro w' hS_; first | (go_simp; with_reducible rfl) | (go_simp; done))); rotate_left; (· first | (simp only [Act.put, List.setIfInBounds_toArray, List.set_cons_zero, List.set_cons_succ, i64_w, i32_w]; rfl) | simp only [Act.put, List.setIfInBounds_toArray, List.set_cons_zero, List.set_cons_succ, i64_w, i32_w])))
          refine run_done ?_
          clear hHeld
          go_wp2
          go_ret
          exact ⟨ret_bool (HNO.out (by rw [HK.out, h3]; simp)).symm, HS.out.below⟩
        | true =>
          cases h4 : (t.2.1 == 0) with
          | true =>
            have f1_ := HS.out.old H0t.out
            have f2_ := HS.out.old H1t.out
            have f3_ := HS.out.old H2t.out
            go_wp2_with (first | ((with_reducible refine gate_dst (N := 8) rfl ?_); refine wpList_stp (fun K hK => ?_); refine stp_box (by rfl) HS (cs := #[(.string ⟨#[]⟩), (.int .i64 0), (.int .i64 0)]) (t := 77) (by first | (go_simp; done) | (go_simp; rfl)) ?_; clear HS f1_ f2_ f3_; intro g_t w1 hg_t HS; refine hK _ _ ?_; clear hK K) | ((with_reducible refine gate_store (t := 77) (p := 8) rfl ?_); refine wpList_stp (fun K hK => ?_); refine stp_set (by rfl) rfl rfl HS 0 0 (cs' := #[.string t.1, .int .i64 t.2.1, .int .i64 t.2.2]) rfl rfl rfl (by kernel_rfl) rfl rfl ?_; clear HS; intro w1 HS; simp only [List.set_cons_zero, List.set_cons_succ] at HS; refine hK _ _ ?_; clear hK K))
            have n_ := Aside0.mk HS.out.drew
            clear HS
            have HS := n_
            clear n_
            refine plan_start (.p 0 (.p 1 (.p 3 (.t 2 (.e 4 (.p 5 (.p 6 (.p 7 (.t 8 (.e 9 (.p 10 (.p 11 (.p 12 (.p 13 (.p 14 (.t 15 (.p 16 (.p 17 (.p 18 (.p 19 (.p 20 (.p 21 (.p 22 (.p 23 (.p 24 (.p 25 (.p 26 (.p 27 (.p 28 (.p 29 (.p 30 (.p 31 (.p 32 (.p 33 .done)))))))))))))))))))))))))))))))))) (fun w' => w'.cell? ⟨g_t, 0, none⟩ = some (.string t.1) ∧ w'.cell? ⟨g_t, 1, none⟩ = some (.int .i64 t.2.1) ∧ w'.cell? ⟨g_t, 2, none⟩ = some (.int .i64 t.2.2)) [] (by kernel_rfl) (by kernel_rfl) (fun c_ a_ d_ v_ w_ h_ => by cases d_ <;> exact h_) ⟨HS.out.c 0 0 (v := .string t.1) rfl rfl, HS.out.c 0 1 (v := .int .i64 t.2.1) rfl rfl, HS.out.c 0 2 (v := .int .i64 t.2.2) rfl rfl⟩ (fun hHeld => ?_)
            repeat (first | ((with_reducible refine gate_p ?_); refine run_p (v := ?_) rfl rfl (Or.inl ⟨by rfl, ?_⟩) (a' := ?_) ?_ ?_; rotate_left; (· (intro w'; first | (go_simp; with_reducible rfl) | (go_simp; done))); rotate_left; (· first | (simp only [Act.put, List.setIfInBounds_toArray, List.set_cons_zero, List.set_cons_succ, i64_w, i32_w]; rfl) | simp only [Act.put, List.setIfInBounds_toArray, List.set_cons_zero, List.set_cons_succ, i64_w, i32_w])) | ((with_reducible refine gate_p ?_); refine run_p (v := undef) rfl rfl (Or.inr ⟨by rfl, rfl⟩) (a' := ?_) ?_ ?_; rotate_left; (· first | (simp only [Act.put, List.setIfInBounds_toArray, List.set_cons_zero, List.set_cons_succ, i64_w, i32_w]; rfl) | simp only [Act.put, List.setIfInBounds_toArray, List.set_cons_zero, List.set_cons_succ, i64_w, i32_w])) | ((with_reducible refine gate_t ?_); refine run_t (v := ?_) rfl rfl hHeld (Or.inl ⟨by rfl, ?_⟩) (a' := ?_) ?_ ?_; rotate_left; (· (intro w' hS_; first | (go_simp; with_reducible rfl) | (go_simp; done))); rotate_left; (· first | (simp only [Act.put, List.setIfInBounds_toArray, List.set_cons_zero, List.set_cons_succ, i64_w, i32_w]; rfl) | simp only [Act.put, List.setIfInBounds_toArray, List.set_cons_zero, List.set_cons_succ, i64_w, i32_w])))
            refine run_e rfl (fun K hK => ?_)
            refine goes_ Try.func125 (by kernel_rfl) rfl #[(.int .i64 (d : Int)), (.string t.1), (.int .i64 (n : Int))] (by rfl) rfl rfl (by simp only [List.map_toArray, List.map_cons, List.map_nil]; rfl) ?_
            refine (implWord d n hd9 _ hsz _).mono ?_
            rintro e_ w1 ⟨rfl, hb⟩
            refine ⟨_, rfl, ?_⟩
            have n_ := Aside0.mk (HS.out.call hb)
            clear HS hb
            have HS := n_
            clear n_
            refine goE hK ⟨HS.out.c 0 0 (v := .string t.1) rfl rfl, HS.out.c 0 1 (v := .int .i64 t.2.1) rfl rfl, HS.out.c 0 2 (v := .int .i64 t.2.2) rfl rfl⟩ (a' := ?_) ?_ (fun hHeld => ?_)
            rotate_left
            · first | (simp only [Act.put, List.setIfInBounds_toArray, List.set_cons_zero, List.set_cons_succ, i64_w, i32_w]; rfl) | simp only [Act.put, List.setIfInBounds_toArray, List.set_cons_zero, List.set_cons_succ, i64_w, i32_w]
            clear hK K
            repeat (first | ((with_reducible refine gate_p ?_); refine run_p (v := ?_) rfl rfl (Or.inl ⟨by rfl, ?_⟩) (a' := ?_) ?_ ?_; rotate_left; (· (intro w'; first | (go_simp; with_reducible rfl) | (go_simp; done))); rotate_left; (· first | (simp only [Act.put, List.setIfInBounds_toArray, List.set_cons_zero, List.set_cons_succ, i64_w, i32_w]; rfl) | simp only [Act.put, List.setIfInBounds_toArray, List.set_cons_zero, List.set_cons_succ, i64_w, i32_w])) | ((with_reducible refine gate_p ?_); refine run_p (v := undef) rfl rfl (Or.inr ⟨by rfl, rfl⟩) (a' := ?_) ?_ ?_; rotate_left; (· first | (simp only [Act.put, List.setIfInBounds_toArray, List.set_cons_zero, List.set_cons_succ, i64_w, i32_w]; rfl) | simp only [Act.put, List.setIfInBounds_toArray, List.set_cons_zero, List.set_cons_succ, i64_w, i32_w])) | ((with_reducible refine gate_t ?_); refine run_t (v := ?_) rfl rfl hHeld (Or.inl ⟨by rfl, ?_⟩) (a' := ?_) ?_ ?_; rotate_left; (· (intro w' hS_; first | (go_simp; with_reducible rfl) | (go_simp; done))); rotate_left; (· first | (simp only [Act.put, List.setIfInBounds_toArray, List.set_cons_zero, List.set_cons_succ, i64_w, i32_w]; rfl) | simp only [Act.put, List.setIfInBounds_toArray, List.set_cons_zero, List.set_cons_succ, i64_w, i32_w])))
            refine run_e rfl (fun K hK => ?_)
            refine goes_ Try.func137 (by kernel_rfl) rfl #[.agg #[.int .i64 t.2.1, .int .i64 t.2.2]] (by rfl) rfl rfl (by simp only [List.map_toArray, List.map_cons, List.map_nil]; rfl) ?_
            refine (implIsFraction _ _ _).mono ?_
            rintro e_ w1 ⟨rfl, hb⟩
            refine ⟨_, rfl, ?_⟩
            have n_ := Aside0.mk (HS.out.call hb)
            clear HS hb
            have HS := n_
            clear n_
            refine goE hK ⟨HS.out.c 0 0 (v := .string t.1) rfl rfl, HS.out.c 0 1 (v := .int .i64 t.2.1) rfl rfl, HS.out.c 0 2 (v := .int .i64 t.2.2) rfl rfl⟩ (a' := ?_) ?_ (fun hHeld => ?_)
            rotate_left
            · first | (simp only [Act.put, List.setIfInBounds_toArray, List.set_cons_zero, List.set_cons_succ, i64_w, i32_w]; rfl) | simp only [Act.put, List.setIfInBounds_toArray, List.set_cons_zero, List.set_cons_succ, i64_w, i32_w]
            clear hK K
            repeat (first | ((with_reducible refine gate_p ?_); refine run_p (v := ?_) rfl rfl (Or.inl ⟨by rfl, ?_⟩) (a' := ?_) ?_ ?_; rotate_left; (· (intro w'; first | (go_simp; with_reducible rfl) | (go_simp; done))); rotate_left; (· first | (simp only [Act.put, List.setIfInBounds_toArray, List.set_cons_zero, List.set_cons_succ, i64_w, i32_w]; rfl) | simp only [Act.put, List.setIfInBounds_toArray, List.set_cons_zero, List.set_cons_succ, i64_w, i32_w])) | ((with_reducible refine gate_p ?_); refine run_p (v := undef) rfl rfl (Or.inr ⟨by rfl, rfl⟩) (a' := ?_) ?_ ?_; rotate_left; (· first | (simp only [Act.put, List.setIfInBounds_toArray, List.set_cons_zero, List.set_cons_succ, i64_w, i32_w]; rfl) | simp only [Act.put, List.setIfInBounds_toArray, List.set_cons_zero, List.set_cons_succ, i64_w, i32_w])) | ((with_reducible refine gate_t ?_); refine run_t (v := ?_) rfl rfl hHeld (Or.inl ⟨by rfl, ?_⟩) (a' := ?_) ?_ ?_; rotate_left; (· (intro w' hS_; first | (go_simp; with_reducible rfl) | (go_simp; done))); rotate_left; (· first | (simp only [Act.put, List.setIfInBounds_toArray, List.set_cons_zero, List.set_cons_succ, i64_w, i32_w]; rfl) | simp only [Act.put, List.setIfInBounds_toArray, List.set_cons_zero, List.set_cons_succ, i64_w, i32_w])))
            refine run_done ?_
            clear hHeld
            go_wp2
            go_ret
            exact ⟨ret_bool (HNO.out (by rw [HK.out, decide_eq_false (p := t.2.1 ≠ 0) (by simpa using h4)]; simp)).symm, HS.out.below⟩
          | false =>
            have HQ := Aside0.mk (show okAt d n l k = (decide (k = 0) || bef (l.getD (k - 1) zT).1 t.1) by rw [HK.out, ← Bool.and_assoc, h1, h3, decide_eq_true (p := t.2.1 ≠ 0) (by simpa using h4)]; rfl)
            by_cases hk0 : k = 0
            · have c0 : decide (0 < (k : Int)) = false := by rw [hk0]; rfl
              have c1 : decide (0 < k) = false := by rw [hk0]; rfl
              have HK0 := Aside0.mk hk0
              clear hk0
              have f1_ := HS.out.old H0t.out
              have f2_ := HS.out.old H1t.out
              have f3_ := HS.out.old H2t.out
              go_wp2_with (first | ((with_reducible refine gate_dst (N := 8) rfl ?_); refine wpList_stp (fun K hK => ?_); refine stp_box (by rfl) HS (cs := #[(.string ⟨#[]⟩), (.int .i64 0), (.int .i64 0)]) (t := 77) (by first | (go_simp; done) | (go_simp; rfl)) ?_; clear HS f1_ f2_ f3_; intro g_t w1 hg_t HS; refine hK _ _ ?_; clear hK K) | ((with_reducible refine gate_store (t := 77) (p := 8) rfl ?_); refine wpList_stp (fun K hK => ?_); refine stp_set (by rfl) rfl rfl HS 0 0 (cs' := #[.string t.1, .int .i64 t.2.1, .int .i64 t.2.2]) rfl rfl rfl (by kernel_rfl) rfl rfl ?_; clear HS; intro w1 HS; simp only [List.set_cons_zero, List.set_cons_succ] at HS; refine hK _ _ ?_; clear hK K))
              have n_ := Aside0.mk HS.out.drew
              clear HS
              have HS := n_
              clear n_
              refine plan_start (.p 0 (.p 1 (.p 3 (.t 2 (.e 4 (.p 5 (.p 6 (.p 7 (.t 8 (.e 9 (.p 10 (.p 11 (.p 12 (.p 13 (.p 14 (.t 15 (.p 16 (.p 17 (.p 18 (.p 19 (.p 20 (.p 21 (.p 22 (.p 23 (.p 24 (.p 25 (.p 26 (.p 27 (.p 28 (.p 29 (.p 30 (.p 31 (.p 32 (.p 33 .done)))))))))))))))))))))))))))))))))) (fun w' => w'.cell? ⟨g_t, 0, none⟩ = some (.string t.1) ∧ w'.cell? ⟨g_t, 1, none⟩ = some (.int .i64 t.2.1) ∧ w'.cell? ⟨g_t, 2, none⟩ = some (.int .i64 t.2.2)) [] (by kernel_rfl) (by kernel_rfl) (fun c_ a_ d_ v_ w_ h_ => by cases d_ <;> exact h_) ⟨HS.out.c 0 0 (v := .string t.1) rfl rfl, HS.out.c 0 1 (v := .int .i64 t.2.1) rfl rfl, HS.out.c 0 2 (v := .int .i64 t.2.2) rfl rfl⟩ (fun hHeld => ?_)
              repeat (first | ((with_reducible refine gate_p ?_); refine run_p (v := ?_) rfl rfl (Or.inl ⟨by rfl, ?_⟩) (a' := ?_) ?_ ?_; rotate_left; (· (intro w'; first | (go_simp; with_reducible rfl) | (go_simp; done))); rotate_left; (· first | (simp only [Act.put, List.setIfInBounds_toArray, List.set_cons_zero, List.set_cons_succ, i64_w, i32_w]; rfl) | simp only [Act.put, List.setIfInBounds_toArray, List.set_cons_zero, List.set_cons_succ, i64_w, i32_w])) | ((with_reducible refine gate_p ?_); refine run_p (v := undef) rfl rfl (Or.inr ⟨by rfl, rfl⟩) (a' := ?_) ?_ ?_; rotate_left; (· first | (simp only [Act.put, List.setIfInBounds_toArray, List.set_cons_zero, List.set_cons_succ, i64_w, i32_w]; rfl) | simp only [Act.put, List.setIfInBounds_toArray, List.set_cons_zero, List.set_cons_succ, i64_w, i32_w])) | ((with_reducible refine gate_t ?_); refine run_t (v := ?_) rfl rfl hHeld (Or.inl ⟨by rfl, ?_⟩) (a' := ?_) ?_ ?_; rotate_left; (· (intro w' hS_; first | (go_simp; with_reducible rfl) | (go_simp; done))); rotate_left; (· first | (simp only [Act.put, List.setIfInBounds_toArray, List.set_cons_zero, List.set_cons_succ, i64_w, i32_w]; rfl) | simp only [Act.put, List.setIfInBounds_toArray, List.set_cons_zero, List.set_cons_succ, i64_w, i32_w])))
              refine run_e rfl (fun K hK => ?_)
              refine goes_ Try.func125 (by kernel_rfl) rfl #[(.int .i64 (d : Int)), (.string t.1), (.int .i64 (n : Int))] (by rfl) rfl rfl (by simp only [List.map_toArray, List.map_cons, List.map_nil]; rfl) ?_
              refine (implWord d n hd9 _ hsz _).mono ?_
              rintro e_ w1 ⟨rfl, hb⟩
              refine ⟨_, rfl, ?_⟩
              have n_ := Aside0.mk (HS.out.call hb)
              clear HS hb
              have HS := n_
              clear n_
              refine goE hK ⟨HS.out.c 0 0 (v := .string t.1) rfl rfl, HS.out.c 0 1 (v := .int .i64 t.2.1) rfl rfl, HS.out.c 0 2 (v := .int .i64 t.2.2) rfl rfl⟩ (a' := ?_) ?_ (fun hHeld => ?_)
              rotate_left
              · first | (simp only [Act.put, List.setIfInBounds_toArray, List.set_cons_zero, List.set_cons_succ, i64_w, i32_w]; rfl) | simp only [Act.put, List.setIfInBounds_toArray, List.set_cons_zero, List.set_cons_succ, i64_w, i32_w]
              clear hK K
              repeat (first | ((with_reducible refine gate_p ?_); refine run_p (v := ?_) rfl rfl (Or.inl ⟨by rfl, ?_⟩) (a' := ?_) ?_ ?_; rotate_left; (· (intro w'; first | (go_simp; with_reducible rfl) | (go_simp; done))); rotate_left; (· first | (simp only [Act.put, List.setIfInBounds_toArray, List.set_cons_zero, List.set_cons_succ, i64_w, i32_w]; rfl) | simp only [Act.put, List.setIfInBounds_toArray, List.set_cons_zero, List.set_cons_succ, i64_w, i32_w])) | ((with_reducible refine gate_p ?_); refine run_p (v := undef) rfl rfl (Or.inr ⟨by rfl, rfl⟩) (a' := ?_) ?_ ?_; rotate_left; (· first | (simp only [Act.put, List.setIfInBounds_toArray, List.set_cons_zero, List.set_cons_succ, i64_w, i32_w]; rfl) | simp only [Act.put, List.setIfInBounds_toArray, List.set_cons_zero, List.set_cons_succ, i64_w, i32_w])) | ((with_reducible refine gate_t ?_); refine run_t (v := ?_) rfl rfl hHeld (Or.inl ⟨by rfl, ?_⟩) (a' := ?_) ?_ ?_; rotate_left; (· (intro w' hS_; first | (go_simp; with_reducible rfl) | (go_simp; done))); rotate_left; (· first | (simp only [Act.put, List.setIfInBounds_toArray, List.set_cons_zero, List.set_cons_succ, i64_w, i32_w]; rfl) | simp only [Act.put, List.setIfInBounds_toArray, List.set_cons_zero, List.set_cons_succ, i64_w, i32_w])))
              refine run_e rfl (fun K hK => ?_)
              refine goes_ Try.func137 (by kernel_rfl) rfl #[.agg #[.int .i64 t.2.1, .int .i64 t.2.2]] (by rfl) rfl rfl (by simp only [List.map_toArray, List.map_cons, List.map_nil]; rfl) ?_
              refine (implIsFraction _ _ _).mono ?_
              rintro e_ w1 ⟨rfl, hb⟩
              refine ⟨_, rfl, ?_⟩
              have n_ := Aside0.mk (HS.out.call hb)
              clear HS hb
              have HS := n_
              clear n_
              refine goE hK ⟨HS.out.c 0 0 (v := .string t.1) rfl rfl, HS.out.c 0 1 (v := .int .i64 t.2.1) rfl rfl, HS.out.c 0 2 (v := .int .i64 t.2.2) rfl rfl⟩ (a' := ?_) ?_ (fun hHeld => ?_)
              rotate_left
              · first | (simp only [Act.put, List.setIfInBounds_toArray, List.set_cons_zero, List.set_cons_succ, i64_w, i32_w]; rfl) | simp only [Act.put, List.setIfInBounds_toArray, List.set_cons_zero, List.set_cons_succ, i64_w, i32_w]
              clear hK K
              repeat (first | ((with_reducible refine gate_p ?_); refine run_p (v := ?_) rfl rfl (Or.inl ⟨by rfl, ?_⟩) (a' := ?_) ?_ ?_; rotate_left; (· (intro w'; first | (go_simp; with_reducible rfl) | (go_simp; done))); rotate_left; (· first | (simp only [Act.put, List.setIfInBounds_toArray, List.set_cons_zero, List.set_cons_succ, i64_w, i32_w]; rfl) | simp only [Act.put, List.setIfInBounds_toArray, List.set_cons_zero, List.set_cons_succ, i64_w, i32_w])) | ((with_reducible refine gate_p ?_); refine run_p (v := undef) rfl rfl (Or.inr ⟨by rfl, rfl⟩) (a' := ?_) ?_ ?_; rotate_left; (· first | (simp only [Act.put, List.setIfInBounds_toArray, List.set_cons_zero, List.set_cons_succ, i64_w, i32_w]; rfl) | simp only [Act.put, List.setIfInBounds_toArray, List.set_cons_zero, List.set_cons_succ, i64_w, i32_w])) | ((with_reducible refine gate_t ?_); refine run_t (v := ?_) rfl rfl hHeld (Or.inl ⟨by rfl, ?_⟩) (a' := ?_) ?_ ?_; rotate_left; (· (intro w' hS_; first | (go_simp; with_reducible rfl) | (go_simp; done))); rotate_left; (· first | (simp only [Act.put, List.setIfInBounds_toArray, List.set_cons_zero, List.set_cons_succ, i64_w, i32_w]; rfl) | simp only [Act.put, List.setIfInBounds_toArray, List.set_cons_zero, List.set_cons_succ, i64_w, i32_w])))
              refine run_done ?_
              clear hHeld
              go_wp2
              have n_ := Aside0.mk (HS.out.sel [] (by decide)); clear HS; have HS := n_; clear n_; simp only [List.filterMap_cons, List.filterMap_nil, List.getElem?_cons_zero, List.getElem?_cons_succ] at HS
              go_roundw
              case rel => exact ⟨k + 1, by omega, by go_num, ⟨round_next HY.out (by rw [HQ.out, decide_eq_true HK0.out]; rfl)⟩, HS⟩
              case measure => simp [intOf]; omega
            · obtain ⟨q, rfl⟩ : ∃ q, k = q + 1 := ⟨k - 1, by omega⟩
              clear hk0
              have c0 : decide (0 < ((q + 1 : Nat) : Int)) = true := decide_eq_true (by omega)
              have c1 : decide (0 < q + 1) = true := decide_eq_true (by omega)
              have hs2 := bnd_get HN.out q
              obtain ⟨adn_, ea_, h0_, h1_, h2_⟩ := tm_at HR.out q ((by omega))
              cases ea_
              obtain ⟨p, ht_⟩ : ∃ t_, t_ = l.getD q zT := ⟨_, rfl⟩
              rw [← ht_] at h0_ h1_ h2_
              have Ep := Aside0.mk ht_; have H0p := Aside0.mk h0_; have H1p := Aside0.mk h1_; have H2p := Aside0.mk h2_
              clear ht_ h0_ h1_ h2_
              rw [← Ep.out] at hs2
              rw [show q + 1 - 1 = q by omega, ← Ep.out] at HQ
              have hq0 : (0 : Int) ≤ q := by omega
              have hq1 : (q : Int) < l.length := by omega
              have HW := Aside0.mk (show IntKind.i64.wrap (q : Int) = (q : Int) from IntWalk.i64_in _ (by omega))
              cases h5 : bef p.1 t.1 with
              | false =>
                have f1_ := HS.out.old H0t.out
                have f2_ := HS.out.old H1t.out
                have f3_ := HS.out.old H2t.out
                go_wp2_with (first | ((with_reducible refine gate_dst (N := 8) rfl ?_); refine wpList_stp (fun K hK => ?_); refine stp_box (by rfl) HS (cs := #[(.string ⟨#[]⟩), (.int .i64 0), (.int .i64 0)]) (t := 77) (by first | (go_simp; done) | (go_simp; rfl)) ?_; clear HS f1_ f2_ f3_; intro g_t w1 hg_t HS; refine hK _ _ ?_; clear hK K) | ((with_reducible refine gate_store (t := 77) (p := 8) rfl ?_); refine wpList_stp (fun K hK => ?_); refine stp_set (by rfl) rfl rfl HS 0 0 (cs' := #[.string t.1, .int .i64 t.2.1, .int .i64 t.2.2]) rfl rfl rfl (by kernel_rfl) rfl rfl ?_; clear HS; intro w1 HS; simp only [List.set_cons_zero, List.set_cons_succ] at HS; refine hK _ _ ?_; clear hK K))
                have hw1 := HW.out
                have hw2 := (i64_w _).symm.trans HW.out
                have n_ := Aside0.mk HS.out.drew
                clear HS
                have HS := n_
                clear n_
                refine plan_start (.p 0 (.p 1 (.p 3 (.t 2 (.e 4 (.p 5 (.p 6 (.p 7 (.t 8 (.e 9 (.p 10 (.p 11 (.p 12 (.p 13 (.p 14 (.t 15 (.p 16 (.p 17 (.p 18 (.p 19 (.p 20 (.p 21 (.p 22 (.p 23 (.p 24 (.p 25 (.p 26 (.p 28 (.t 27 (.t 29 (.d 30 (.p 31 (.p 32 (.p 33 .done)))))))))))))))))))))))))))))))))) (fun w' => w'.cell? ⟨g_t, 0, none⟩ = some (.string t.1) ∧ w'.cell? ⟨g_t, 1, none⟩ = some (.int .i64 t.2.1) ∧ w'.cell? ⟨g_t, 2, none⟩ = some (.int .i64 t.2.2) ∧ w'.cell? (ad_l.add (q * 3)) = some (.string p.1)) [30] (by kernel_rfl) (by kernel_rfl) (fun c_ a_ d_ v_ w_ h_ => by cases d_ <;> exact h_) ⟨HS.out.c 0 0 (v := .string t.1) rfl rfl, HS.out.c 0 1 (v := .int .i64 t.2.1) rfl rfl, HS.out.c 0 2 (v := .int .i64 t.2.2) rfl rfl, HS.out.old H0p.out⟩ (fun hHeld => ?_)
                repeat (first | ((with_reducible refine gate_p ?_); refine run_p (v := ?_) rfl rfl (Or.inl ⟨by rfl, ?_⟩) (a' := ?_) ?_ ?_; rotate_left; (· (intro w'; first | (go_simp; with_reducible rfl) | (go_simp; done))); rotate_left; (· first | (simp only [Act.put, List.setIfInBounds_toArray, List.set_cons_zero, List.set_cons_succ, i64_w, i32_w]; rfl) | simp only [Act.put, List.setIfInBounds_toArray, List.set_cons_zero, List.set_cons_succ, i64_w, i32_w])) | ((with_reducible refine gate_t ?_); refine run_t (v := ?_) rfl rfl hHeld (Or.inl ⟨by rfl, ?_⟩) (a' := ?_) ?_ ?_; rotate_left; (· (intro w' hS_; first | (go_simp; with_reducible rfl) | (go_simp; done))); rotate_left; (· first | (simp only [Act.put, List.setIfInBounds_toArray, List.set_cons_zero, List.set_cons_succ, i64_w, i32_w]; rfl) | simp only [Act.put, List.setIfInBounds_toArray, List.set_cons_zero, List.set_cons_succ, i64_w, i32_w])))
                refine run_e rfl (fun K hK => ?_)
                refine goes_ Try.func125 (by kernel_rfl) rfl #[(.int .i64 (d : Int)), (.string t.1), (.int .i64 (n : Int))] (by rfl) rfl rfl (by simp only [List.map_toArray, List.map_cons, List.map_nil]; rfl) ?_
                refine (implWord d n hd9 _ hsz _).mono ?_
                rintro e_ w1 ⟨rfl, hb⟩
                refine ⟨_, rfl, ?_⟩
                have n_ := Aside0.mk (HS.out.call hb)
                clear HS hb
                have HS := n_
                clear n_
                refine goE hK ⟨HS.out.c 0 0 (v := .string t.1) rfl rfl, HS.out.c 0 1 (v := .int .i64 t.2.1) rfl rfl, HS.out.c 0 2 (v := .int .i64 t.2.2) rfl rfl, HS.out.old H0p.out⟩ (a' := ?_) ?_ (fun hHeld => ?_)
                rotate_left
                · first | (simp only [Act.put, List.setIfInBounds_toArray, List.set_cons_zero, List.set_cons_succ, i64_w, i32_w]; rfl) | simp only [Act.put, List.setIfInBounds_toArray, List.set_cons_zero, List.set_cons_succ, i64_w, i32_w]
                clear hK K
                repeat (first | ((with_reducible refine gate_p ?_); refine run_p (v := ?_) rfl rfl (Or.inl ⟨by rfl, ?_⟩) (a' := ?_) ?_ ?_; rotate_left; (· (intro w'; first | (go_simp; with_reducible rfl) | (go_simp; done))); rotate_left; (· first | (simp only [Act.put, List.setIfInBounds_toArray, List.set_cons_zero, List.set_cons_succ, i64_w, i32_w]; rfl) | simp only [Act.put, List.setIfInBounds_toArray, List.set_cons_zero, List.set_cons_succ, i64_w, i32_w])) | ((with_reducible refine gate_t ?_); refine run_t (v := ?_) rfl rfl hHeld (Or.inl ⟨by rfl, ?_⟩) (a' := ?_) ?_ ?_; rotate_left; (· (intro w' hS_; first | (go_simp; with_reducible rfl) | (go_simp; done))); rotate_left; (· first | (simp only [Act.put, List.setIfInBounds_toArray, List.set_cons_zero, List.set_cons_succ, i64_w, i32_w]; rfl) | simp only [Act.put, List.setIfInBounds_toArray, List.set_cons_zero, List.set_cons_succ, i64_w, i32_w])))
                refine run_e rfl (fun K hK => ?_)
                refine goes_ Try.func137 (by kernel_rfl) rfl #[.agg #[.int .i64 t.2.1, .int .i64 t.2.2]] (by rfl) rfl rfl (by simp only [List.map_toArray, List.map_cons, List.map_nil]; rfl) ?_
                refine (implIsFraction _ _ _).mono ?_
                rintro e_ w1 ⟨rfl, hb⟩
                refine ⟨_, rfl, ?_⟩
                have n_ := Aside0.mk (HS.out.call hb)
                clear HS hb
                have HS := n_
                clear n_
                refine goE hK ⟨HS.out.c 0 0 (v := .string t.1) rfl rfl, HS.out.c 0 1 (v := .int .i64 t.2.1) rfl rfl, HS.out.c 0 2 (v := .int .i64 t.2.2) rfl rfl, HS.out.old H0p.out⟩ (a' := ?_) ?_ (fun hHeld => ?_)
                rotate_left
                · first | (simp only [Act.put, List.setIfInBounds_toArray, List.set_cons_zero, List.set_cons_succ, i64_w, i32_w]; rfl) | simp only [Act.put, List.setIfInBounds_toArray, List.set_cons_zero, List.set_cons_succ, i64_w, i32_w]
                clear hK K
                repeat (first | ((with_reducible refine gate_p ?_); refine run_p (v := ?_) rfl rfl (Or.inl ⟨by rfl, ?_⟩) (a' := ?_) ?_ ?_; rotate_left; (· (intro w'; first | (go_simp; with_reducible rfl) | (go_simp; done))); rotate_left; (· first | (simp only [Act.put, List.setIfInBounds_toArray, List.set_cons_zero, List.set_cons_succ, i64_w, i32_w]; rfl) | simp only [Act.put, List.setIfInBounds_toArray, List.set_cons_zero, List.set_cons_succ, i64_w, i32_w])) | ((with_reducible refine gate_t ?_); refine run_t (v := ?_) rfl rfl hHeld (Or.inl ⟨by rfl, ?_⟩) (a' := ?_) ?_ ?_; rotate_left; (· (intro w' hS_; first | (go_simp; with_reducible rfl) | (go_simp; done))); rotate_left; (· first | (simp only [Act.put, List.setIfInBounds_toArray, List.set_cons_zero, List.set_cons_succ, i64_w, i32_w]; rfl) | simp only [Act.put, List.setIfInBounds_toArray, List.set_cons_zero, List.set_cons_succ, i64_w, i32_w])))
                refine run_d rfl (fun K hK => ?_)
                refine goes_ Try.func181 (by kernel_rfl) rfl #[(.string p.1), (.string t.1)] (by rfl) rfl rfl (by simp only [List.map_toArray, List.map_cons, List.map_nil]; rfl) ?_
                refine (implCompare _ _ hs2 hs1 _).mono ?_
                rintro e_ w1 ⟨⟨c9, rfl, hc9⟩, hb⟩
                refine ⟨_, rfl, ?_⟩
                have n_ := Aside0.mk (HS.out.call hb)
                clear HS hb
                have HS := n_
                clear n_
                rw [h5] at hc9
                simp only [Bool.not_true, Bool.not_false] at hc9
                refine goD hK (a' := ?_) ?_ ?_
                rotate_left
                · first | (simp only [Act.put, List.setIfInBounds_toArray, List.set_cons_zero, List.set_cons_succ, i64_w, i32_w]; rfl) | simp only [Act.put, List.setIfInBounds_toArray, List.set_cons_zero, List.set_cons_succ, i64_w, i32_w]
                clear hK K
                repeat (first | ((with_reducible refine gate_p ?_); refine run_p (v := ?_) rfl rfl (Or.inl ⟨by rfl, ?_⟩) (a' := ?_) ?_ ?_; rotate_left; (· (intro w'; first | (go_simp; with_reducible rfl) | (go_simp; done))); rotate_left; (· first | (simp only [Act.put, List.setIfInBounds_toArray, List.set_cons_zero, List.set_cons_succ, i64_w, i32_w]; rfl) | simp only [Act.put, List.setIfInBounds_toArray, List.set_cons_zero, List.set_cons_succ, i64_w, i32_w])) | ((with_reducible refine gate_t ?_); refine run_t (v := ?_) rfl rfl hHeld (Or.inl ⟨by rfl, ?_⟩) (a' := ?_) ?_ ?_; rotate_left; (· (intro w' hS_; first | (go_simp; with_reducible rfl) | (go_simp; done))); rotate_left; (· first | (simp only [Act.put, List.setIfInBounds_toArray, List.set_cons_zero, List.set_cons_succ, i64_w, i32_w]; rfl) | simp only [Act.put, List.setIfInBounds_toArray, List.set_cons_zero, List.set_cons_succ, i64_w, i32_w])))
                refine run_done ?_
                clear hHeld
                clear hw1 hw2
                go_wp2
                go_ret
                exact ⟨ret_bool (HNO.out (by rw [HQ.out, h5]; simp)).symm, HS.out.below⟩
              | true =>
                have f1_ := HS.out.old H0t.out
                have f2_ := HS.out.old H1t.out
                have f3_ := HS.out.old H2t.out
                go_wp2_with (first | ((with_reducible refine gate_dst (N := 8) rfl ?_); refine wpList_stp (fun K hK => ?_); refine stp_box (by rfl) HS (cs := #[(.string ⟨#[]⟩), (.int .i64 0), (.int .i64 0)]) (t := 77) (by first | (go_simp; done) | (go_simp; rfl)) ?_; clear HS f1_ f2_ f3_; intro g_t w1 hg_t HS; refine hK _ _ ?_; clear hK K) | ((with_reducible refine gate_store (t := 77) (p := 8) rfl ?_); refine wpList_stp (fun K hK => ?_); refine stp_set (by rfl) rfl rfl HS 0 0 (cs' := #[.string t.1, .int .i64 t.2.1, .int .i64 t.2.2]) rfl rfl rfl (by kernel_rfl) rfl rfl ?_; clear HS; intro w1 HS; simp only [List.set_cons_zero, List.set_cons_succ] at HS; refine hK _ _ ?_; clear hK K))
                have hw1 := HW.out
                have hw2 := (i64_w _).symm.trans HW.out
                have n_ := Aside0.mk HS.out.drew
                clear HS
                have HS := n_
                clear n_
                refine plan_start (.p 0 (.p 1 (.p 3 (.t 2 (.e 4 (.p 5 (.p 6 (.p 7 (.t 8 (.e 9 (.p 10 (.p 11 (.p 12 (.p 13 (.p 14 (.t 15 (.p 16 (.p 17 (.p 18 (.p 19 (.p 20 (.p 21 (.p 22 (.p 23 (.p 24 (.p 25 (.p 26 (.p 28 (.t 27 (.t 29 (.d 30 (.p 31 (.p 32 (.p 33 .done)))))))))))))))))))))))))))))))))) (fun w' => w'.cell? ⟨g_t, 0, none⟩ = some (.string t.1) ∧ w'.cell? ⟨g_t, 1, none⟩ = some (.int .i64 t.2.1) ∧ w'.cell? ⟨g_t, 2, none⟩ = some (.int .i64 t.2.2) ∧ w'.cell? (ad_l.add (q * 3)) = some (.string p.1)) [30] (by kernel_rfl) (by kernel_rfl) (fun c_ a_ d_ v_ w_ h_ => by cases d_ <;> exact h_) ⟨HS.out.c 0 0 (v := .string t.1) rfl rfl, HS.out.c 0 1 (v := .int .i64 t.2.1) rfl rfl, HS.out.c 0 2 (v := .int .i64 t.2.2) rfl rfl, HS.out.old H0p.out⟩ (fun hHeld => ?_)
                repeat (first | ((with_reducible refine gate_p ?_); refine run_p (v := ?_) rfl rfl (Or.inl ⟨by rfl, ?_⟩) (a' := ?_) ?_ ?_; rotate_left; (· (intro w'; first | (go_simp; with_reducible rfl) | (go_simp; done))); rotate_left; (· first | (simp only [Act.put, List.setIfInBounds_toArray, List.set_cons_zero, List.set_cons_succ, i64_w, i32_w]; rfl) | simp only [Act.put, List.setIfInBounds_toArray, List.set_cons_zero, List.set_cons_succ, i64_w, i32_w])) | ((with_reducible refine gate_t ?_); refine run_t (v := ?_) rfl rfl hHeld (Or.inl ⟨by rfl, ?_⟩) (a' := ?_) ?_ ?_; rotate_left; (· (intro w' hS_; first | (go_simp; with_reducible rfl) | (go_simp; done))); rotate_left; (· first | (simp only [Act.put, List.setIfInBounds_toArray, List.set_cons_zero, List.set_cons_succ, i64_w, i32_w]; rfl) | simp only [Act.put, List.setIfInBounds_toArray, List.set_cons_zero, List.set_cons_succ, i64_w, i32_w])))
                refine run_e rfl (fun K hK => ?_)
                refine goes_ Try.func125 (by kernel_rfl) rfl #[(.int .i64 (d : Int)), (.string t.1), (.int .i64 (n : Int))] (by rfl) rfl rfl (by simp only [List.map_toArray, List.map_cons, List.map_nil]; rfl) ?_
                refine (implWord d n hd9 _ hsz _).mono ?_
                rintro e_ w1 ⟨rfl, hb⟩
                refine ⟨_, rfl, ?_⟩
                have n_ := Aside0.mk (HS.out.call hb)
                clear HS hb
                have HS := n_
                clear n_
                refine goE hK ⟨HS.out.c 0 0 (v := .string t.1) rfl rfl, HS.out.c 0 1 (v := .int .i64 t.2.1) rfl rfl, HS.out.c 0 2 (v := .int .i64 t.2.2) rfl rfl, HS.out.old H0p.out⟩ (a' := ?_) ?_ (fun hHeld => ?_)
                rotate_left
                · first | (simp only [Act.put, List.setIfInBounds_toArray, List.set_cons_zero, List.set_cons_succ, i64_w, i32_w]; rfl) | simp only [Act.put, List.setIfInBounds_toArray, List.set_cons_zero, List.set_cons_succ, i64_w, i32_w]
                clear hK K
                repeat (first | ((with_reducible refine gate_p ?_); refine run_p (v := ?_) rfl rfl (Or.inl ⟨by rfl, ?_⟩) (a' := ?_) ?_ ?_; rotate_left; (· (intro w'; first | (go_simp; with_reducible rfl) | (go_simp; done))); rotate_left; (· first | (simp only [Act.put, List.setIfInBounds_toArray, List.set_cons_zero, List.set_cons_succ, i64_w, i32_w]; rfl) | simp only [Act.put, List.setIfInBounds_toArray, List.set_cons_zero, List.set_cons_succ, i64_w, i32_w])) | ((with_reducible refine gate_t ?_); refine run_t (v := ?_) rfl rfl hHeld (Or.inl ⟨by rfl, ?_⟩) (a' := ?_) ?_ ?_; rotate_left; (· (intro w' hS_; first | (go_simp; with_reducible rfl) | (go_simp; done))); rotate_left; (· first | (simp only [Act.put, List.setIfInBounds_toArray, List.set_cons_zero, List.set_cons_succ, i64_w, i32_w]; rfl) | simp only [Act.put, List.setIfInBounds_toArray, List.set_cons_zero, List.set_cons_succ, i64_w, i32_w])))
                refine run_e rfl (fun K hK => ?_)
                refine goes_ Try.func137 (by kernel_rfl) rfl #[.agg #[.int .i64 t.2.1, .int .i64 t.2.2]] (by rfl) rfl rfl (by simp only [List.map_toArray, List.map_cons, List.map_nil]; rfl) ?_
                refine (implIsFraction _ _ _).mono ?_
                rintro e_ w1 ⟨rfl, hb⟩
                refine ⟨_, rfl, ?_⟩
                have n_ := Aside0.mk (HS.out.call hb)
                clear HS hb
                have HS := n_
                clear n_
                refine goE hK ⟨HS.out.c 0 0 (v := .string t.1) rfl rfl, HS.out.c 0 1 (v := .int .i64 t.2.1) rfl rfl, HS.out.c 0 2 (v := .int .i64 t.2.2) rfl rfl, HS.out.old H0p.out⟩ (a' := ?_) ?_ (fun hHeld => ?_)
                rotate_left
                · first | (simp only [Act.put, List.setIfInBounds_toArray, List.set_cons_zero, List.set_cons_succ, i64_w, i32_w]; rfl) | simp only [Act.put, List.setIfInBounds_toArray, List.set_cons_zero, List.set_cons_succ, i64_w, i32_w]
                clear hK K
                repeat (first | ((with_reducible refine gate_p ?_); refine run_p (v := ?_) rfl rfl (Or.inl ⟨by rfl, ?_⟩) (a' := ?_) ?_ ?_; rotate_left; (· (intro w'; first | (go_simp; with_reducible rfl) | (go_simp; done))); rotate_left; (· first | (simp only [Act.put, List.setIfInBounds_toArray, List.set_cons_zero, List.set_cons_succ, i64_w, i32_w]; rfl) | simp only [Act.put, List.setIfInBounds_toArray, List.set_cons_zero, List.set_cons_succ, i64_w, i32_w])) | ((with_reducible refine gate_t ?_); refine run_t (v := ?_) rfl rfl hHeld (Or.inl ⟨by rfl, ?_⟩) (a' := ?_) ?_ ?_; rotate_left; (· (intro w' hS_; first | (go_simp; with_reducible rfl) | (go_simp; done))); rotate_left; (· first | (simp only [Act.put, List.setIfInBounds_toArray, List.set_cons_zero, List.set_cons_succ, i64_w, i32_w]; rfl) | simp only [Act.put, List.setIfInBounds_toArray, List.set_cons_zero, List.set_cons_succ, i64_w, i32_w])))
                refine run_d rfl (fun K hK => ?_)
                refine goes_ Try.func181 (by kernel_rfl) rfl #[(.string p.1), (.string t.1)] (by rfl) rfl rfl (by simp only [List.map_toArray, List.map_cons, List.map_nil]; rfl) ?_
                refine (implCompare _ _ hs2 hs1 _).mono ?_
                rintro e_ w1 ⟨⟨c9, rfl, hc9⟩, hb⟩
                refine ⟨_, rfl, ?_⟩
                have n_ := Aside0.mk (HS.out.call hb)
                clear HS hb
                have HS := n_
                clear n_
                rw [h5] at hc9
                simp only [Bool.not_true, Bool.not_false] at hc9
                refine goD hK (a' := ?_) ?_ ?_
                rotate_left
                · first | (simp only [Act.put, List.setIfInBounds_toArray, List.set_cons_zero, List.set_cons_succ, i64_w, i32_w]; rfl) | simp only [Act.put, List.setIfInBounds_toArray, List.set_cons_zero, List.set_cons_succ, i64_w, i32_w]
                clear hK K
                repeat (first | ((with_reducible refine gate_p ?_); refine run_p (v := ?_) rfl rfl (Or.inl ⟨by rfl, ?_⟩) (a' := ?_) ?_ ?_; rotate_left; (· (intro w'; first | (go_simp; with_reducible rfl) | (go_simp; done))); rotate_left; (· first | (simp only [Act.put, List.setIfInBounds_toArray, List.set_cons_zero, List.set_cons_succ, i64_w, i32_w]; rfl) | simp only [Act.put, List.setIfInBounds_toArray, List.set_cons_zero, List.set_cons_succ, i64_w, i32_w])) | ((with_reducible refine gate_t ?_); refine run_t (v := ?_) rfl rfl hHeld (Or.inl ⟨by rfl, ?_⟩) (a' := ?_) ?_ ?_; rotate_left; (· (intro w' hS_; first | (go_simp; with_reducible rfl) | (go_simp; done))); rotate_left; (· first | (simp only [Act.put, List.setIfInBounds_toArray, List.set_cons_zero, List.set_cons_succ, i64_w, i32_w]; rfl) | simp only [Act.put, List.setIfInBounds_toArray, List.set_cons_zero, List.set_cons_succ, i64_w, i32_w])))
                refine run_done ?_
                clear hHeld
                clear hw1 hw2
                go_wp2
                have n_ := Aside0.mk (HS.out.sel [] (by decide)); clear HS; have HS := n_; clear n_; simp only [List.filterMap_cons, List.filterMap_nil, List.getElem?_cons_zero, List.getElem?_cons_succ] at HS
                go_roundw
                case rel => exact ⟨q + 1 + 1, by omega, by go_num, ⟨round_next HY.out (by rw [HQ.out, h5]; simp)⟩, HS⟩
                case measure => simp [intOf]; omega
    · have HE := Aside0.mk (isTs_ok.2 (fun j hj => HY.out j (by omega)))
      go_wp2
      go_ret
      exact ⟨ret_bool HE.out.symm, HS.out.below⟩
set_option maxRecDepth 100000 in
set_option maxHeartbeats 4000000 in
theorem implIs (d n : Int) (A : Option Addr) (c : Nat) (l : Ts) (w : World) (hr : KT.C w A l.length l) (hc : l.length ≤ c) (hb : bnd l = true) :
    Calls Try.prog 42 #[.agg #[.int .i64 d, .int .i64 n, .slice A l.length c]] w fun e w' => e = .returned (.bool (isS d n l)) ∧ Below w.heap.size w w' := by
  have HR := Aside0.mk hr
  have HN := Aside0.mk hb
  have HS := Aside0.mk (Sep.refl w)
  clear hr hb
  cases hlev : lev d n with
  | false =>
    rw [isS_no hlev]
    go_enter Try.func42, Try.ntmps42
    go_wp2_with (first | ((with_reducible refine gate_dst (N := 1) rfl ?_); refine wpList_stp (fun K hK => ?_); refine stp_box (by rfl) HS (cs := #[.int .i64 d, .int .i64 n, .slice A l.length c]) (t := 32) (by first | (go_simp; done) | (go_simp; rfl)) ?_; clear HS; intro g_x w1 hg_x HS; refine hK _ _ ?_; clear hK K; have f1_ := HS.out.c 0 0 (v := .int .i64 d) rfl rfl; have f2_ := HS.out.c 0 1 (v := .int .i64 n) rfl rfl) | (go_at_call 101; refine (implLevel _ _ _).mono ?_; rintro e_ w1 ⟨rfl, hb⟩; have n_ := Aside0.mk (HS.out.call hb); clear HS f1_ f2_ hb; have HS := n_; clear n_))
    go_ret
    exact ⟨rfl, HS.out.below⟩
  | true =>
    obtain ⟨d, n, rfl, rfl, hd1, hd3, hn1, hn5⟩ := lev_nat hlev
    rw [isS_lev hlev]
    go_enter Try.func42, Try.ntmps42
    go_wp2_with (first | ((with_reducible refine gate_dst (N := 1) rfl ?_); refine wpList_stp (fun K hK => ?_); refine stp_box (by rfl) HS (cs := #[.int .i64 (d : Int), .int .i64 (n : Int), .slice A l.length c]) (t := 32) (by first | (go_simp; done) | (go_simp; rfl)) ?_; clear HS; intro g_x w1 hg_x HS; refine hK _ _ ?_; clear hK K; have f1_ := HS.out.c 0 0 (v := .int .i64 (d : Int)) rfl rfl; have f2_ := HS.out.c 0 1 (v := .int .i64 (n : Int)) rfl rfl) | (go_at_call 101; refine (implLevel _ _ _).mono ?_; rintro e_ w1 ⟨rfl, hb⟩; have n_ := Aside0.mk (HS.out.call hb); clear HS f1_ f2_ hb; have HS := n_; clear n_; have f1_ := HS.out.c 0 0 (v := .int .i64 (d : Int)) rfl rfl; have f2_ := HS.out.c 0 1 (v := .int .i64 (n : Int)) rfl rfl; have f3_ := HS.out.c 0 2 (v := .slice A l.length c) rfl rfl) | (go_at_call 111; refine (implTerms d n ⟨hd1, hd3⟩ hn5 A c l _ (HS.out.oldC HR.out) HN.out).mono ?_; rintro e_ w1 ⟨rfl, hb⟩; have n_ := Aside0.mk (HS.out.call hb); clear HS f1_ f2_ f3_ hb; have HS := n_; clear n_))
    go_ret
    exact ⟨rfl, HS.out.below⟩
end Go.Proofs.Ytcklblagklojhaa.H

