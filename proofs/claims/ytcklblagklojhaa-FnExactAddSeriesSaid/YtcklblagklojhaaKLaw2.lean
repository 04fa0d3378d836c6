/- What the laws' own helpers tell of series: copies, comparisons, marks. Conditions: the bounds that stand in each statement. -/
import Derived.Test.YtcklblagklojhaaKMark
namespace Go.Proofs.Ytcklblagklojhaa.H
open Go.RowKit Go.Proofs.YtcklblagklojhaaW.PrintWords Go.Proofs.YtcklblagklojhaaW.PrintLast Go.Proofs.YtcklblagklojhaaW.PrintMore Go.Proofs.Ytcklblagklojhaa.M
attribute [local go_sem] max2_int min2_int max_two min_two max_three min_three max_four min_four
set_option linter.unusedVariables false
set_option linter.unusedSimpArgs false
set_option maxRecDepth 100000
/-- A series as a result: the value, and its row of one's own. -/
abbrev rowT (A : Option Addr) (c : Nat) (l : Ts) : As := rw' KT rfl 77 (.slice A l.length c) l
set_option maxHeartbeats 4000000 in
theorem lawHeldTermS (A : Option Addr) (c n : Nat) (k : Nat) (w : World) (hr : KT.C w A n (mkd k n)) (hl : n ≤ 1048576) (hk0 : 0 < k) (hk1 : k ≤ 10000000) :
    Calls Try.prog 107 #[.slice A n c, .int .i64 (k : Int)] w fun e w' => e = .returned (.int .i64 ((k + 3 * n : Nat) : Int)) ∧ Below w.heap.size w w' := by
  have HR := Aside0.mk hr
  have HS := Aside0.mk (Sep.refl w)
  clear hr
  go_enter Try.func107, Try.ntmps107
  go_wp2
  go_loopw [1, 5] (fun x v w' => ∃ i m : Nat, i ≤ n ∧ v = .int .i64 (i : Int) ∧ x = .int .i64 (m : Int) ∧ m = k + 3 * i ∧ Aside0 (Mod w w' No [])) (fun _ v _ => n - (intOf v).toNat)
  case atStart => exact ⟨0, k, by omega, rfl, rfl, rfl, HS⟩
  case round =>
    clear HS
    obtain ⟨i, m, hi, rfl, rfl, hm, HS⟩ := hrel
    by_cases hlt : i < n
    · obtain ⟨ad_A, ea_, h0_, h1_, h2_⟩ := tm_at HR.out i hlt
      cases ea_
      rw [mkd_get hlt] at h0_ h1_ h2_
      unfold mkT at h0_ h1_ h2_
      rw [← hm] at h0_ h1_ h2_
      have hm1 : m ≤ 100000000 := by omega
      have hm0 : 0 < m := by omega
      have HM := Aside0.mk hm
      have H0 := Aside0.mk h0_
      have H1 := Aside0.mk h1_
      have H2 := Aside0.mk h2_
      clear h0_ h1_ h2_ hm
      have hb1 : ((mt m).toList != (mt m).toList) = false := by simp
      have hb2 : (((m + 1 : Nat) : Int) != ((m + 1 : Nat) : Int)) = false := by simp
      have hb3 : (((m + 2 : Nat) : Int) != ((m + 2 : Nat) : Int)) = false := by simp
      have hb4 : (((m : Int) + 1) != ((m : Int) + 1)) = false := by simp
      have hb5 : (((m : Int) + 2) != ((m : Int) + 1 + 1)) = false := by rw [bne_eq_false_iff_eq]; omega
      go_wp2
      have n_ := Aside0.mk HS.out.drew
      clear HS
      have HS := n_
      clear n_
      refine plan_start (.p 0 (.p 1 (.p 2 (.p 3 (.p 5 (.t 4 (.e 6 (.p 7 .done)))))))) (fun w' => w'.cell? (ad_A.add (i * 3)) = some (.string (mt m))) [] (by kernel_rfl) (by kernel_rfl) (fun c_ a_ d_ v_ w_ h_ => by cases d_ <;> exact h_) (HS.out.old H0.out) (fun hHeld => ?_)
      repeat (first | ((with_reducible refine gate_p ?_); refine run_p (v := ?_) rfl rfl (Or.inl ⟨by rfl, ?_⟩) (a' := ?_) ?_ ?_; rotate_left; (· (intro w'; first | (go_simp; with_reducible rfl) | (go_simp; done))); rotate_left; (· first | (simp only [Act.put, List.setIfInBounds_toArray, List.set_cons_zero, List.set_cons_succ, i64_w, i32_w]; rfl) | simp only [Act.put, List.setIfInBounds_toArray, List.set_cons_zero, List.set_cons_succ, i64_w, i32_w])) | ((with_reducible refine gate_t ?_); refine run_t (v := ?_) rfl rfl hHeld (Or.inl ⟨by rfl, ?_⟩) (a' := ?_) ?_ ?_; rotate_left; (· (intro w' hS_; first | (go_simp; with_reducible rfl) | (go_simp; done))); rotate_left; (· first | (simp only [Act.put, List.setIfInBounds_toArray, List.set_cons_zero, List.set_cons_succ, i64_w, i32_w]; rfl) | simp only [Act.put, List.setIfInBounds_toArray, List.set_cons_zero, List.set_cons_succ, i64_w, i32_w])))
      refine run_e rfl (fun K hK => ?_)
      refine goes_ Try.func177 (by kernel_rfl) rfl #[.int .i64 (m : Int)] (by rfl) rfl rfl (by simp only [List.map_toArray, List.map_cons, List.map_nil]; rfl) ?_
      refine (lawMarkText m _ hm0 hm1).mono ?_
      rintro e_ w1 ⟨rfl, hb⟩
      refine ⟨_, rfl, ?_⟩
      have n_ := Aside0.mk (HS.out.call hb)
      clear HS hb
      have HS := n_
      clear n_
      refine goE hK (HS.out.old H0.out) (a' := ?_) ?_ (fun hHeld => ?_)
      rotate_left
      · first | (simp only [Act.put, List.setIfInBounds_toArray, List.set_cons_zero, List.set_cons_succ, i64_w, i32_w]; rfl) | simp only [Act.put, List.setIfInBounds_toArray, List.set_cons_zero, List.set_cons_succ, i64_w, i32_w]
      clear hK K
      repeat (first | ((with_reducible refine gate_p ?_); refine run_p (v := ?_) rfl rfl (Or.inl ⟨by rfl, ?_⟩) (a' := ?_) ?_ ?_; rotate_left; (· (intro w'; first | (go_simp; with_reducible rfl) | (go_simp; done))); rotate_left; (· first | (simp only [Act.put, List.setIfInBounds_toArray, List.set_cons_zero, List.set_cons_succ, i64_w, i32_w]; rfl) | simp only [Act.put, List.setIfInBounds_toArray, List.set_cons_zero, List.set_cons_succ, i64_w, i32_w])) | ((with_reducible refine gate_t ?_); refine run_t (v := ?_) rfl rfl hHeld (Or.inl ⟨by rfl, ?_⟩) (a' := ?_) ?_ ?_; rotate_left; (· (intro w' hS_; first | (go_simp; with_reducible rfl) | (go_simp; done))); rotate_left; (· first | (simp only [Act.put, List.setIfInBounds_toArray, List.set_cons_zero, List.set_cons_succ, i64_w, i32_w]; rfl) | simp only [Act.put, List.setIfInBounds_toArray, List.set_cons_zero, List.set_cons_succ, i64_w, i32_w])))
      refine run_done ?_
      clear hHeld
      have f1_ := HS.out.old H1.out
      have f2_ := c2 (HS.out.old H2.out)
      go_wp2
      go_roundw
      case rel => exact ⟨i + 1, m + 3, by omega, by go_num, by first | go_num | rfl, by rw [HM.out]; omega, HS⟩
      case measure => simp [intOf]; omega
    · skip
      go_wp2
      go_ret
      exact ⟨ret_int (by omega), HS.out.below⟩
set_option maxHeartbeats 4000000 in
theorem lawHeldSeries (d n : Int) (A : Option Addr) (c m : Nat) (k : Nat) (w : World) (hr : KT.C w A m (mkd k m)) (hl : m ≤ 1048576) (hk0 : 0 < k) (hk1 : k ≤ 10000000) :
    Calls Try.prog 38 #[.agg #[.int .i64 d, .int .i64 n, .slice A m c], .int .i64 (k : Int)] w fun e w' => e = .returned (.int .i64 ((k + 3 * m : Nat) : Int)) ∧ Below w.heap.size w w' := by
  have HR := Aside0.mk hr
  have HS := Aside0.mk (Sep.refl w)
  have hn : ¬ (((k + 3 * m : Nat) : Int) < 0) := by omega
  clear hr
  go_enter Try.func38, Try.ntmps38
  go_wp2_with (first | ((with_reducible refine gate_dst (N := 2) rfl ?_); refine wpList_stp (fun K hK => ?_); refine stp_box (by rfl) HS (cs := #[.int .i64 d, .int .i64 n, .slice A m c]) (t := 32) (by first | (go_simp; done) | (go_simp; rfl)) ?_; clear HS; intro g_x w1 hg_x HS; refine hK _ _ ?_; clear hK K; have f1_ := HS.out.c 0 2 (v := .slice A m c) rfl rfl) | (go_at_call 107; refine (lawHeldTermS A c m k _ (HS.out.oldC HR.out) hl hk0 hk1).mono ?_; rintro e_ w1 ⟨rfl, hb⟩; have n_ := Aside0.mk (HS.out.call hb); clear HS f1_ hb; have HS := n_; clear n_))
  go_ret
  exact ⟨rfl, HS.out.below⟩
set_option maxHeartbeats 4000000 in
theorem lawMarkSeries (d n : Int) (A : Option Addr) (c : Nat) (l : Ts) (k : Nat) (w : World) (hR : (rowT A c l).I w) (hl : l.length ≤ 1048576) (hk0 : 0 < k) (hk1 : k ≤ 10000000) :
    Calls Try.prog 37 #[.agg #[.int .i64 d, .int .i64 n, .slice A l.length c], .int .i64 (k : Int)] w fun e w' => e = .returned (.int .i64 ((k + 3 * l.length : Nat) : Int)) ∧ Mod w w' (rowT A c l).S [rw' KT rfl 77 (.slice A l.length c) (mkd k l.length)] := by
  have HS := Aside0.mk (Mod.own1 hR)
  clear hR
  go_enter Try.func37, Try.ntmps37
  go_wp2_with (first | ((with_reducible refine gate_dst (N := 2) rfl ?_); refine wpList_stp (fun K hK => ?_); refine stp_box (by rfl) HS (cs := #[.int .i64 d, .int .i64 n, .slice A l.length c]) (t := 32) (by first | (go_simp; done) | (go_simp; rfl)) ?_; clear HS; intro g_x w1 hg_x HS; refine hK _ _ ?_; clear hK K; have f1_ := HS.out.c 0 2 (v := .slice A l.length c) rfl rfl) | (go_at_call 106; refine (lawMarkTermS A c l k _ (HS.out.rowAt 1 rfl) hl hk0 hk1).mono ?_; rintro e_ w1 ⟨rfl, hs⟩; have n_ := Aside0.mk (Mod.step (A0 := [rowT A c l]) (R := [bx g_x 32 #[.int .i64 d, .int .i64 n, .slice A l.length c]]) (HS.out.sel [1, 0] (by decide)) hs (fun k_ hk_ => ⟨_, List.mem_cons_self, hk_⟩)); clear HS f1_ hs; have HS := n_; clear n_; simp only [List.cons_append, List.nil_append] at HS))
  have n_ := Aside0.mk (HS.out.sel [0] (by decide)); clear HS; have HS := n_; clear n_; simp only [List.filterMap_cons, List.filterMap_nil, List.getElem?_cons_zero, List.getElem?_cons_succ] at HS
  go_ret
  exact ⟨rfl, HS.out⟩
set_option maxHeartbeats 4000000 in
theorem lawSeries (d n : Int) (A : Option Addr) (c : Nat) (l : Ts) (w : World) (hr : KT.C w A l.length l) (hm : l.length ≤ 1048576) :
    Calls Try.prog 41 #[.agg #[.int .i64 d, .int .i64 n, .slice A l.length c]] w fun e w' => ∃ A' c', e = .returned (.agg #[.int .i64 d, .int .i64 n, .slice A' l.length c']) ∧ Sep w w' [rowT A' c' l] := by
  have HR := Aside0.mk hr
  have HS := Aside0.mk (Sep.refl w)
  clear hr
  go_enter Try.func41, Try.ntmps41
  go_wp2_with (first | ((with_reducible refine gate_dst (N := 1) rfl ?_); refine wpList_stp (fun K hK => ?_); refine stp_box (by rfl) HS (cs := #[.int .i64 d, .int .i64 n, .slice A l.length c]) (t := 40) (by first | (go_simp; done) | (go_simp; rfl)) ?_; clear HS; intro g_a w1 hg_a HS; refine hK _ _ ?_; clear hK K) | ((with_reducible refine gate_dst (N := 2) rfl ?_); refine wpList_stp (fun K hK => ?_); refine stp_box (by rfl) HS (cs := #[(.int .i64 0), (.int .i64 0), (.slice none 0 0)]) (t := 32) (by first | (go_simp; done) | (go_simp; rfl)) ?_; clear HS; intro g_r w1 hg_r HS; refine hK _ _ ?_; clear hK K) | ((with_reducible refine gate_dst (N := 3) rfl ?_); refine wpList_stp (fun K hK => ?_); refine stp_box (by rfl) HS (cs := #[(.int .i64 0), (.int .i64 0), (.slice none 0 0)]) (t := 32) (by first | (go_simp; done) | (go_simp; rfl)) ?_; clear HS; intro g_o w1 hg_o HS; refine hK _ _ ?_; clear hK K; have f1_ := HS.out.c 2 0 (v := .int .i64 d) rfl rfl) | ((with_reducible refine gate_store (t := 2) (p := 6) rfl ?_); refine wpList_stp (fun K hK => ?_); refine stp_set (by rfl) rfl rfl HS 0 0 (cs' := #[(.int .i64 d), (.int .i64 0), (.slice none 0 0)]) rfl rfl rfl (by kernel_rfl) rfl rfl ?_; clear HS f1_; intro w1 HS; simp only [List.set_cons_zero, List.set_cons_succ] at HS; refine hK _ _ ?_; clear hK K; have f1_ := HS.out.c 2 1 (v := .int .i64 n) rfl rfl) | ((with_reducible refine gate_store (t := 2) (p := 9) rfl ?_); refine wpList_stp (fun K hK => ?_); refine stp_set (by rfl) rfl rfl HS 0 1 (cs' := #[(.int .i64 d), (.int .i64 n), (.slice none 0 0)]) rfl rfl rfl (by kernel_rfl) rfl rfl ?_; clear HS f1_; intro w1 HS; simp only [List.set_cons_zero, List.set_cons_succ] at HS; refine hK _ _ ?_; clear hK K; have f1_ := HS.out.c 2 2 (v := .slice A l.length c) rfl rfl) | (go_at_call 110; refine (lawTermS A c l _ (HS.out.oldC HR.out) hm).mono ?_; rintro e_ w1 ⟨A1, c1, rfl, hs⟩; have n_ := Aside0.mk (HS.out.new hs); clear HS f1_ hs; have HS := n_; clear n_; simp only [List.cons_append, List.nil_append] at HS) | ((with_reducible refine gate_store (t := 30) (p := 13) rfl ?_); refine wpList_stp (fun K hK => ?_); refine stp_set (by rfl) rfl rfl HS 1 2 (cs' := #[(.int .i64 d), (.int .i64 n), (.slice A1 l.length c1)]) rfl rfl rfl (by kernel_rfl) rfl rfl ?_; clear HS; intro w1 HS; simp only [List.set_cons_zero, List.set_cons_succ] at HS; refine hK _ _ ?_; clear hK K; have f1_ := HS.out.c 1 0 (v := (.int .i64 d)) rfl rfl; have f2_ := HS.out.c 1 1 (v := (.int .i64 n)) rfl rfl; have f3_ := HS.out.c 1 2 (v := (.slice A1 l.length c1)) rfl rfl) | ((with_reducible refine gate_store (t := 32) (p := 2) rfl ?_); refine wpList_stp (fun K hK => ?_); refine stp_set (by rfl) rfl rfl HS 2 0 (cs' := #[(.int .i64 d), (.int .i64 n), (.slice A1 l.length c1)]) rfl rfl rfl (by kernel_rfl) rfl rfl ?_; clear HS f1_ f2_ f3_; intro w1 HS; simp only [List.set_cons_zero, List.set_cons_succ] at HS; refine hK _ _ ?_; clear hK K))
  refine bodyPost_ret (results_cell_row rfl _ _ g_r 32 #[(.int .i64 d), (.int .i64 n), (.slice A1 l.length c1)] (0, 0) _ rfl (HS.out.at (i := 2) rfl) Try.underlying32 rfl (by kernel_rfl)) rfl ?_
  have n_ := Aside0.mk (HS.out.sel [0] (by decide)); clear HS; have HS := n_; clear n_; simp only [List.filterMap_cons, List.filterMap_nil, List.getElem?_cons_zero, List.getElem?_cons_succ] at HS
  exact ⟨A1, c1, rfl, HS.out⟩
theorem lawEqFraction (x y : Int) (w : World) : Calls Try.prog 33 #[.agg #[.int .i64 x, .int .i64 y], .agg #[.int .i64 x, .int .i64 y]] w fun e w' => e = .returned (.bool true) ∧ Below w.heap.size w w' := by
  have HS := Aside0.mk (Sep.refl w)
  have h1 : (x != x) = false := by simp
  have h2 : (y != y) = false := by simp
  go_enter Try.func33, Try.ntmps33
  go_wp2_with (first | ((with_reducible refine gate_dst (N := 2) rfl ?_); refine wpList_stp (fun K hK => ?_); refine stp_box (by rfl) HS (cs := #[.int .i64 x, .int .i64 y]) (t := 24) (by first | (go_simp; done) | (go_simp; rfl)) ?_; clear HS; intro g_a w1 hg_a HS; refine hK _ _ ?_; clear hK K) | ((with_reducible refine gate_dst (N := 3) rfl ?_); refine wpList_stp (fun K hK => ?_); refine stp_box (by rfl) HS (cs := #[.int .i64 x, .int .i64 y]) (t := 24) (by first | (go_simp; done) | (go_simp; rfl)) ?_; clear HS; intro g_b w1 hg_b HS; refine hK _ _ ?_; clear hK K; have f1_ := HS.out.c 1 0 (v := .int .i64 x) rfl rfl; have f2_ := HS.out.c 0 0 (v := .int .i64 x) rfl rfl; have f3_ := HS.out.c 1 1 (v := .int .i64 y) rfl rfl; have f4_ := HS.out.c 0 1 (v := .int .i64 y) rfl rfl))
  go_ret
  exact ⟨rfl, HS.out.below⟩
set_option maxHeartbeats 4000000 in
theorem lawEqTerm (s : ByteArray) (x y : Int) (w : World) : Calls Try.prog 176 #[.agg #[.string s, .int .i64 x, .int .i64 y], .agg #[.string s, .int .i64 x, .int .i64 y]] w fun e w' => e = .returned (.bool true) ∧ Below w.heap.size w w' := by
  have HS := Aside0.mk (Sep.refl w)
  have h1 : (s.toList != s.toList) = false := by simp
  go_enter Try.func176, Try.ntmps176
  go_wp2_with (first | ((with_reducible refine gate_dst (N := 2) rfl ?_); refine wpList_stp (fun K hK => ?_); refine stp_box (by rfl) HS (cs := #[.string s, .int .i64 x, .int .i64 y]) (t := 77) (by first | (go_simp; done) | (go_simp; rfl)) ?_; clear HS; intro g_a w1 hg_a HS; refine hK _ _ ?_; clear hK K) | ((with_reducible refine gate_dst (N := 3) rfl ?_); refine wpList_stp (fun K hK => ?_); refine stp_box (by rfl) HS (cs := #[.string s, .int .i64 x, .int .i64 y]) (t := 77) (by first | (go_simp; done) | (go_simp; rfl)) ?_; clear HS; intro g_b w1 hg_b HS; refine hK _ _ ?_; clear hK K; have f1_ := HS.out.c 1 0 (v := .string s) rfl rfl; have f2_ := HS.out.c 0 0 (v := .string s) rfl rfl; have f3_ := HS.out.c 1 1 (v := .int .i64 x) rfl rfl; have f4_ := HS.out.c 1 2 (v := .int .i64 y) rfl rfl; have f5_ := HS.out.c 0 1 (v := .int .i64 x) rfl rfl; have f6_ := HS.out.c 0 2 (v := .int .i64 y) rfl rfl) | (go_at_call 33; refine (lawEqFraction x y _).mono ?_; rintro e_ w1 ⟨rfl, hb⟩; have n_ := Aside0.mk (HS.out.call hb); clear HS f1_ f2_ f3_ f4_ f5_ f6_ hb; have HS := n_; clear n_))
  go_ret
  exact ⟨rfl, HS.out.below⟩
set_option maxHeartbeats 4000000 in
theorem lawEqTermS (A B : Option Addr) (c c' : Nat) (l : Ts) (w : World) (hr : KT.C w A l.length l) (hr2 : KT.C w B l.length l) (hm : l.length ≤ 1048576) :
    Calls Try.prog 105 #[.slice A l.length c, .slice B l.length c'] w fun e w' => e = .returned (.bool true) ∧ Below w.heap.size w w' := by
  have HR := Aside0.mk hr
  have HR2 := Aside0.mk hr2
  have HS := Aside0.mk (Sep.refl w)
  have h1 : ((l.length : Int) != (l.length : Int)) = false := by simp
  clear hr hr2
  go_enter Try.func105, Try.ntmps105
  go_wp2
  go_loopw [5] (fun v w' => ∃ k : Nat, k ≤ l.length ∧ v = .int .i64 (k : Int) ∧ Aside0 (Mod w w' No [])) (fun v _ => l.length - (intOf v).toNat)
  case atStart => exact ⟨0, by omega, rfl, HS⟩
  case round =>
    clear HS
    obtain ⟨k, hk, rfl, HS⟩ := hrel
    by_cases hlt : k < l.length
    · skip
      obtain ⟨ad_A, ea_, h0_, h1_, h2_⟩ := tm_at HR.out k (hlt)
      cases ea_
      obtain ⟨t, ht_⟩ : ∃ t_, t_ = l.getD k zT := ⟨_, rfl⟩
      rw [← ht_] at h0_ h1_ h2_
      have Et := Aside0.mk ht_; have H0t := Aside0.mk h0_; have H1t := Aside0.mk h1_; have H2t := Aside0.mk h2_
      clear ht_ h0_ h1_ h2_
      obtain ⟨ad_B, ea_, h0_, h1_, h2_⟩ := tm_at HR2.out k (hlt)
      cases ea_
      rw [← Et.out] at h0_ h1_ h2_
      have H0u := Aside0.mk h0_; have H1u := Aside0.mk h1_; have H2u := Aside0.mk h2_
      clear h0_ h1_ h2_
      have hq0 : (0 : Int) ≤ k := by omega
      have hq1 : (k : Int) < l.length := by omega
      go_wp2
      have n_ := Aside0.mk HS.out.drew
      clear HS
      have HS := n_
      clear n_
      refine plan_start (.p 0 (.p 1 (.p 2 (.p 4 (.p 5 (.p 6 (.t 3 (.t 7 (.d 8 (.p 9 .done)))))))))) (fun w' => w'.cell? (ad_A.add (k * 3)) = some (.string t.1) ∧ w'.cell? ⟨(ad_A.add (k * 3)).block, (ad_A.add (k * 3)).off + 1, none⟩ = some (.int .i64 t.2.1) ∧ w'.cell? ⟨(ad_A.add (k * 3)).block, (ad_A.add (k * 3)).off + 2, none⟩ = some (.int .i64 t.2.2) ∧ w'.cell? (ad_B.add (k * 3)) = some (.string t.1) ∧ w'.cell? ⟨(ad_B.add (k * 3)).block, (ad_B.add (k * 3)).off + 1, none⟩ = some (.int .i64 t.2.1) ∧ w'.cell? ⟨(ad_B.add (k * 3)).block, (ad_B.add (k * 3)).off + 2, none⟩ = some (.int .i64 t.2.2)) [8] (by kernel_rfl) (by kernel_rfl) (fun c_ a_ d_ v_ w_ h_ => by cases d_ <;> exact h_) ⟨HS.out.old H0t.out, HS.out.old H1t.out, HS.out.old H2t.out, HS.out.old H0u.out, HS.out.old H1u.out, HS.out.old H2u.out⟩ (fun hHeld => ?_)
      repeat (first | ((with_reducible refine gate_p ?_); refine run_p (v := ?_) rfl rfl (Or.inl ⟨by rfl, ?_⟩) (a' := ?_) ?_ ?_; rotate_left; (· (intro w'; first | (go_simp; with_reducible rfl) | (go_simp; done))); rotate_left; (· first | (simp only [Act.put, List.setIfInBounds_toArray, List.set_cons_zero, List.set_cons_succ, i64_w, i32_w]; rfl) | simp only [Act.put, List.setIfInBounds_toArray, List.set_cons_zero, List.set_cons_succ, i64_w, i32_w])) | ((with_reducible refine gate_t ?_); refine run_t (v := ?_) rfl rfl hHeld (Or.inl ⟨by rfl, ?_⟩) (a' := ?_) ?_ ?_; rotate_left; (· (intro w' hS_; first | (go_simp; with_reducible rfl) | (go_simp; done))); rotate_left; (· first | (simp only [Act.put, List.setIfInBounds_toArray, List.set_cons_zero, List.set_cons_succ, i64_w, i32_w]; rfl) | simp only [Act.put, List.setIfInBounds_toArray, List.set_cons_zero, List.set_cons_succ, i64_w, i32_w])))
      refine run_d rfl (fun K hK => ?_)
      refine goes_ Try.func176 (by kernel_rfl) rfl #[.agg #[.string t.1, .int .i64 t.2.1, .int .i64 t.2.2], .agg #[.string t.1, .int .i64 t.2.1, .int .i64 t.2.2]] (by rfl) rfl rfl (by simp only [List.map_toArray, List.map_cons, List.map_nil]; rfl) ?_
      refine (lawEqTerm t.1 t.2.1 t.2.2 _).mono ?_
      rintro e_ w1 ⟨rfl, hb⟩
      refine ⟨_, rfl, ?_⟩
      have n_ := Aside0.mk (HS.out.call hb)
      clear HS hb
      have HS := n_
      clear n_
      refine goD hK (a' := ?_) ?_ ?_
      rotate_left
      · first | (simp only [Act.put, List.setIfInBounds_toArray, List.set_cons_zero, List.set_cons_succ, i64_w, i32_w]; rfl) | simp only [Act.put, List.setIfInBounds_toArray, List.set_cons_zero, List.set_cons_succ, i64_w, i32_w]
      clear hK K
      repeat (first | ((with_reducible refine gate_p ?_); refine run_p (v := ?_) rfl rfl (Or.inl ⟨by rfl, ?_⟩) (a' := ?_) ?_ ?_; rotate_left; (· (intro w'; first | (go_simp; with_reducible rfl) | (go_simp; done))); rotate_left; (· first | (simp only [Act.put, List.setIfInBounds_toArray, List.set_cons_zero, List.set_cons_succ, i64_w, i32_w]; rfl) | simp only [Act.put, List.setIfInBounds_toArray, List.set_cons_zero, List.set_cons_succ, i64_w, i32_w])) | ((with_reducible refine gate_t ?_); refine run_t (v := ?_) rfl rfl hHeld (Or.inl ⟨by rfl, ?_⟩) (a' := ?_) ?_ ?_; rotate_left; (· (intro w' hS_; first | (go_simp; with_reducible rfl) | (go_simp; done))); rotate_left; (· first | (simp only [Act.put, List.setIfInBounds_toArray, List.set_cons_zero, List.set_cons_succ, i64_w, i32_w]; rfl) | simp only [Act.put, List.setIfInBounds_toArray, List.set_cons_zero, List.set_cons_succ, i64_w, i32_w])))
      refine run_done ?_
      clear hHeld
      go_wp2
      go_roundw
      case rel => exact ⟨k + 1, by omega, by go_num, HS⟩
      case measure => simp [intOf]; omega
    · skip
      go_wp2
      go_ret
      exact ⟨rfl, HS.out.below⟩
set_option maxHeartbeats 4000000 in
theorem lawEqSeries (d n : Int) (A B : Option Addr) (c c' : Nat) (l : Ts) (w : World) (hr : KT.C w A l.length l) (hr2 : KT.C w B l.length l) (hm : l.length ≤ 1048576) :
    Calls Try.prog 36 #[.agg #[.int .i64 d, .int .i64 n, .slice A l.length c], .agg #[.int .i64 d, .int .i64 n, .slice B l.length c']] w fun e w' => e = .returned (.bool true) ∧ Below w.heap.size w w' := by
  have HR := Aside0.mk hr
  have HR2 := Aside0.mk hr2
  have HS := Aside0.mk (Sep.refl w)
  have h1 : (d != d) = false := by simp
  have h2 : (n != n) = false := by simp
  clear hr hr2
  go_enter Try.func36, Try.ntmps36
  go_wp2_with (first | ((with_reducible refine gate_dst (N := 2) rfl ?_); refine wpList_stp (fun K hK => ?_); refine stp_box (by rfl) HS (cs := #[.int .i64 d, .int .i64 n, .slice A l.length c]) (t := 32) (by first | (go_simp; done) | (go_simp; rfl)) ?_; clear HS; intro g_a w1 hg_a HS; refine hK _ _ ?_; clear hK K) | ((with_reducible refine gate_dst (N := 3) rfl ?_); refine wpList_stp (fun K hK => ?_); refine stp_box (by rfl) HS (cs := #[.int .i64 d, .int .i64 n, .slice B l.length c']) (t := 32) (by first | (go_simp; done) | (go_simp; rfl)) ?_; clear HS; intro g_b w1 hg_b HS; refine hK _ _ ?_; clear hK K; have f1_ := HS.out.c 1 0 (v := .int .i64 d) rfl rfl; have f2_ := HS.out.c 0 0 (v := .int .i64 d) rfl rfl; have f3_ := HS.out.c 1 1 (v := .int .i64 n) rfl rfl; have f4_ := HS.out.c 0 1 (v := .int .i64 n) rfl rfl; have f5_ := HS.out.c 1 2 (v := .slice A l.length c) rfl rfl; have f6_ := HS.out.c 0 2 (v := .slice B l.length c') rfl rfl) | (go_at_call 105; refine (lawEqTermS A B c c' l _ (HS.out.oldC HR.out) (HS.out.oldC HR2.out) hm).mono ?_; rintro e_ w1 ⟨rfl, hb⟩; have n_ := Aside0.mk (HS.out.call hb); clear HS f1_ f2_ f3_ f4_ f5_ f6_ hb; have HS := n_; clear n_))
  go_ret
  exact ⟨rfl, HS.out.below⟩
set_option maxHeartbeats 4000000 in
theorem lawSzSeries (d n : Int) (A : Option Addr) (c : Nat) (l : Ts) (left : Int) (w : World) (hr : KT.C w A l.length l) (hm : l.length ≤ 9223372036854775807) (hz : ∀ t ∈ l, t.1.size ≤ 9223372036854775807) (h0 : 0 ≤ left) (h1 : left ≤ 1048576) :
    Calls Try.prog 39 #[.agg #[.int .i64 d, .int .i64 n, .slice A l.length c], .int .i64 left] w (SzR l left w) := by
  have HR := Aside0.mk hr
  have HZ := Aside0.mk hz
  have HS := Aside0.mk (Sep.refl w)
  clear hr hz
  go_enter Try.func39, Try.ntmps39
  go_wp2_with (first | ((with_reducible refine gate_dst (N := 2) rfl ?_); refine wpList_stp (fun K hK => ?_); refine stp_box (by rfl) HS (cs := #[.int .i64 d, .int .i64 n, .slice A l.length c]) (t := 40) (by first | (go_simp; done) | (go_simp; rfl)) ?_; clear HS; intro g_x w1 hg_x HS; refine hK _ _ ?_; clear hK K; have f1_ := HS.out.c 0 2 (v := .slice A l.length c) rfl rfl) | (go_at_call 108; refine (lawSzTermS A c l left _ (HS.out.oldC HR.out) hm HZ.out h0 h1).mono ?_; rintro e_ w1 ⟨v, rfl, hv1, hv2, hv3, hb⟩; have n_ := Aside0.mk (HS.out.call hb); clear HS f1_ hb; have HS := n_; clear n_))
  · refine bodyPost_ret (results_tmp (by rfl) _ _ _) rfl ?_
    exact ⟨-1, rfl, by omega, by omega, fun h => by omega, HS.out.below⟩
  · refine bodyPost_ret (results_tmp (by rfl) _ _ _) rfl ?_
    exact ⟨v, rfl, hv1, hv2, hv3, HS.out.below⟩
/-- The same, with a bare sum. -/
abbrev rowM (A : Option Addr) (c k n : Nat) : As := rw' KT rfl 77 (.slice A n c) (mkd k n)
theorem lawMarkO (d n : Int) (A : Option Addr) (c : Nat) (l : Ts) (k K : Nat) (hK : K = k + 3 * l.length) (w : World) (hR : (rowT A c l).I w) (hl : l.length ≤ 1048576) (hk0 : 0 < k) (hk1 : k ≤ 10000000) :
    Calls Try.prog 37 #[.agg #[.int .i64 d, .int .i64 n, .slice A l.length c], .int .i64 (k : Int)] w fun e w' => e = .returned (.int .i64 (K : Int)) ∧ Mod w w' (rowT A c l).S [rowM A c k l.length] := by
  subst hK
  exact lawMarkSeries d n A c l k w hR hl hk0 hk1
theorem lawHeldO (d n : Int) (A : Option Addr) (c m : Nat) (k K : Nat) (hK : K = k + 3 * m) (w : World) (hr : KT.C w A m (mkd k m)) (hl : m ≤ 1048576) (hk0 : 0 < k) (hk1 : k ≤ 10000000) :
    Calls Try.prog 38 #[.agg #[.int .i64 d, .int .i64 n, .slice A m c], .int .i64 (k : Int)] w fun e w' => e = .returned (.int .i64 (K : Int)) ∧ Below w.heap.size w w' := by
  subst hK
  exact lawHeldSeries d n A c m k w hr hl hk0 hk1
theorem Mod.readsM {w W : World} {S : Nat → Prop} {L : List As} (h : Mod w W S L) (i : Nat) {A : Option Addr} {c k n : Nat} (hi : L[i]? = some (rowM A c k n)) : KT.C W A n (mkd k n) := by
  have := h.reads i hi
  rwa [mkd_length] at this
end Go.Proofs.Ytcklblagklojhaa.H

