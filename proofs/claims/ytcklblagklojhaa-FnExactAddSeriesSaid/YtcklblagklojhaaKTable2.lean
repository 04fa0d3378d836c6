/- Tables: their values, additions, their series. Conditions: the bounds that stand in each statement. -/
import Derived.Test.YtcklblagklojhaaKTable
namespace Go.Proofs.Ytcklblagklojhaa.H
open Go.RowKit Go.Proofs.YtcklblagklojhaaW.PrintWords Go.Proofs.YtcklblagklojhaaW.PrintLast Go.Proofs.YtcklblagklojhaaW.PrintMore Go.Proofs.Ytcklblagklojhaa.M
attribute [local go_sem] max2_int min2_int max_two min_two max_three min_three max_four min_four
set_option linter.unusedVariables false
set_option linter.unusedSimpArgs false
set_option maxRecDepth 100000
theorem lev_bd {d n : Nat} (h : lev d n = true) : 1 ≤ d ∧ d ≤ 3 ∧ 1 ≤ n ∧ n ≤ 5 := by
  have := lev_iff.1 h
  omega
theorem tab_at {w : World} {v d n : Nat} {f : ByteArray → Fr} {s : ByteArray} (h : (tV v d n f).I w) (hw : isWd d s = true) (hn : s.size ≤ n) :
    w.cell? ⟨v, num d s * 2, none⟩ = some (.int .i64 (f s).1) ∧ w.cell? ⟨v, num d s * 2 + 1, none⟩ = some (.int .i64 (f s).2) ∧ num d s < nW d n := by
  have hlt : num d s < nW d n := num_lt' hw hn
  have hl2 : num d s < (tabL d n f).length := by rw [tabL_length]; exact hlt
  have he : (tabL d n f)[num d s] = f s := by
    have := tabL_at (f := f) hw hn
    rw [List.getElem?_eq_getElem hl2] at this
    exact Option.some.inj this
  exact ⟨tv_cell h 0 hl2 (by omega) (by rw [he]; rfl), tv_cell h 1 hl2 (by omega) (by rw [he]; rfl), hlt⟩
set_option maxHeartbeats 4000000 in
theorem implLike (g v d n N : Nat) (bad : Bool) (w : World) (hl : lev d n = true) (ht : (tS g v d n N bad).I w) : Calls Try.prog 184 #[.pointer (some ⟨g, 0, none⟩)] w fun e w' =>
    ∃ g' v', e = .returned (.pointer (some ⟨g', 0, none⟩)) ∧ Sep w w' [tS g' v' d n (nW d n) false, tV v' d n (fun _ => (0, 1))] := by
  have HT := Aside0.mk ht
  have HL := Aside0.mk hl
  have HS := Aside0.mk (Sep.refl w)
  clear ht hl
  go_enter Try.func184, Try.ntmps184
  go_wp2
  have n_ := Aside0.mk HS.out.drew
  clear HS
  have HS := n_
  clear n_
  refine plan_start (.p 0 (.p 1 (.p 2 (.p 4 (.p 5 (.p 6 (.t 3 (.t 7 (.d 8 (.p 9 .done)))))))))) (fun w' => w'.cell? ⟨g, 0, none⟩ = some (.int .i64 (d : Int)) ∧ w'.cell? ⟨g, 1, none⟩ = some (.int .i64 (n : Int))) [8] (by kernel_rfl) (by kernel_rfl) (fun c_ a_ d_ v_ w_ h_ => by cases d_ <;> exact h_) ⟨bx_c (HS.out.oldI HT.out) 0 (v := .int .i64 (d : Int)) rfl, bx_c (HS.out.oldI HT.out) 1 (v := .int .i64 (n : Int)) rfl⟩ (fun hHeld => ?_)
  repeat (first | ((with_reducible refine gate_p ?_); refine run_p (v := ?_) rfl rfl (Or.inl ⟨by rfl, ?_⟩) (a' := ?_) ?_ ?_; rotate_left; (· (intro w'; first | (go_simp; with_reducible rfl) | (go_simp; done))); rotate_left; (· first | (simp only [Act.put, List.setIfInBounds_toArray, List.set_cons_zero, List.set_cons_succ, i64_w, i32_w]; rfl) | simp only [Act.put, List.setIfInBounds_toArray, List.set_cons_zero, List.set_cons_succ, i64_w, i32_w])) | ((with_reducible refine gate_t ?_); refine run_t (v := ?_) rfl rfl hHeld (Or.inl ⟨by rfl, ?_⟩) (a' := ?_) ?_ ?_; rotate_left; (· (intro w' hS_; first | (go_simp; with_reducible rfl) | (go_simp; done))); rotate_left; (· first | (simp only [Act.put, List.setIfInBounds_toArray, List.set_cons_zero, List.set_cons_succ, i64_w, i32_w]; rfl) | simp only [Act.put, List.setIfInBounds_toArray, List.set_cons_zero, List.set_cons_succ, i64_w, i32_w])))
  refine run_d rfl (fun K hK => ?_)
  refine goes_ Try.func114 (by kernel_rfl) rfl #[(.int .i64 (d : Int)), (.int .i64 (n : Int))] (by rfl) rfl rfl (by simp only [List.map_toArray, List.map_cons, List.map_nil]; rfl) ?_
  refine (implNew d n HL.out _).mono ?_
  rintro e_ w1 ⟨g', v', rfl, hs⟩
  refine ⟨_, rfl, ?_⟩
  have n_ := Aside0.mk (HS.out.new hs)
  clear HS hs
  have HS := n_
  clear n_
  simp only [List.cons_append, List.nil_append] at HS
  refine goD hK (a' := ?_) ?_ ?_
  rotate_left
  · first | (simp only [Act.put, List.setIfInBounds_toArray, List.set_cons_zero, List.set_cons_succ, i64_w, i32_w]; rfl) | simp only [Act.put, List.setIfInBounds_toArray, List.set_cons_zero, List.set_cons_succ, i64_w, i32_w]
  clear hK K
  repeat (first | ((with_reducible refine gate_p ?_); refine run_p (v := ?_) rfl rfl (Or.inl ⟨by rfl, ?_⟩) (a' := ?_) ?_ ?_; rotate_left; (· (intro w'; first | (go_simp; with_reducible rfl) | (go_simp; done))); rotate_left; (· first | (simp only [Act.put, List.setIfInBounds_toArray, List.set_cons_zero, List.set_cons_succ, i64_w, i32_w]; rfl) | simp only [Act.put, List.setIfInBounds_toArray, List.set_cons_zero, List.set_cons_succ, i64_w, i32_w])) | ((with_reducible refine gate_t ?_); refine run_t (v := ?_) rfl rfl hHeld (Or.inl ⟨by rfl, ?_⟩) (a' := ?_) ?_ ?_; rotate_left; (· (intro w' hS_; first | (go_simp; with_reducible rfl) | (go_simp; done))); rotate_left; (· first | (simp only [Act.put, List.setIfInBounds_toArray, List.set_cons_zero, List.set_cons_succ, i64_w, i32_w]; rfl) | simp only [Act.put, List.setIfInBounds_toArray, List.set_cons_zero, List.set_cons_succ, i64_w, i32_w])))
  refine run_done ?_
  clear hHeld
  go_wp2
  go_ret
  exact ⟨g', v', rfl, HS.out⟩
set_option maxHeartbeats 4000000 in
theorem implAt (g v d n : Nat) (bad : Bool) (f : ByteArray → Fr) (s : ByteArray) (w : World) (hl : lev d n = true) (ht : (tS g v d n (nW d n) bad).I w) (hv : (tV v d n f).I w) (hw : isWd d s = true) (hn : s.size ≤ n) :
    Calls Try.prog 127 #[.pointer (some ⟨g, 0, none⟩), .string s] w fun e w' => e = .returned (.agg #[.int .i64 (f s).1, .int .i64 (f s).2]) ∧ Below w.heap.size w w' := by
  obtain ⟨h0, h1, hlt⟩ := tab_at hv hw hn
  obtain ⟨hd1, hd3, hn1, hn5⟩ := lev_bd hl
  have HT := Aside0.mk ht
  have HW := Aside0.mk hw
  have HS := Aside0.mk (Sep.refl w)
  clear ht hv hl hw
  have hs5 : s.size ≤ 5 := by omega
  obtain ⟨k, hk⟩ : ∃ k, k = num d s := ⟨_, rfl⟩
  have CN := fun W => (hk ▸ implNumber d s W hd1 hd3 HW.out hs5 : Calls Try.prog 138 #[.int .i64 (d : Int), .string s] W fun e w' => e = .returned (.int .i64 ((k : Nat) : Int)) ∧ Below W.heap.size W w')
  rw [← hk] at h0 h1 hlt
  have H0 := Aside0.mk h0
  have H1 := Aside0.mk h1
  have HCN := Aside0.mk CN
  clear CN hk h0 h1
  obtain ⟨N, hN⟩ : ∃ N, N = nW d n := ⟨_, rfl⟩
  rw [← hN] at hlt HT
  clear hN
  have hq0 : (0 : Int) ≤ k := by omega
  have hq1 : (k : Int) < N := by omega
  go_enter Try.func127, Try.ntmps127
  go_wp2_with (first | ((with_reducible refine gate_dst (N := 4) rfl ?_); refine wpList_stp (fun K hK => ?_); refine stp_box (by rfl) HS (cs := #[(.int .i64 0), (.int .i64 0)]) (t := 24) (by first | (go_simp; done) | (go_simp; rfl)) ?_; clear HS; intro g_r w1 hg_r HS; refine hK _ _ ?_; clear hK K))
  have n_ := Aside0.mk HS.out.drew
  clear HS
  have HS := n_
  clear n_
  refine plan_start (.p 0 (.p 1 (.p 2 (.p 4 (.p 5 (.p 6 (.p 8 (.t 3 (.t 7 (.e 9 (.p 10 (.t 11 (.d 12 .done))))))))))))) (fun w' => w'.cell? ⟨g, 2, none⟩ = some (.slice (some ⟨v, 0, none⟩) N N) ∧ w'.cell? ⟨g, 0, none⟩ = some (.int .i64 (d : Int)) ∧ w'.cell? ⟨v, k * 2, none⟩ = some (.int .i64 (f s).1) ∧ w'.cell? ⟨v, k * 2 + 1, none⟩ = some (.int .i64 (f s).2)) [12] (by kernel_rfl) (by kernel_rfl) (fun c_ a_ d_ v_ w_ h_ => by cases d_ <;> exact h_) ⟨bx_c (HS.out.oldI HT.out) 2 (v := .slice (some ⟨v, 0, none⟩) N N) rfl, bx_c (HS.out.oldI HT.out) 0 (v := .int .i64 (d : Int)) rfl, HS.out.old H0.out, HS.out.old H1.out⟩ (fun hHeld => ?_)
  repeat (first | ((with_reducible refine gate_p ?_); refine run_p (v := ?_) rfl rfl (Or.inl ⟨by rfl, ?_⟩) (a' := ?_) ?_ ?_; rotate_left; (· (intro w'; first | (go_simp; with_reducible rfl) | (go_simp; done))); rotate_left; (· first | (simp only [Act.put, List.setIfInBounds_toArray, List.set_cons_zero, List.set_cons_succ, i64_w, i32_w]; rfl) | simp only [Act.put, List.setIfInBounds_toArray, List.set_cons_zero, List.set_cons_succ, i64_w, i32_w])) | ((with_reducible refine gate_t ?_); refine run_t (v := ?_) rfl rfl hHeld (Or.inl ⟨by rfl, ?_⟩) (a' := ?_) ?_ ?_; rotate_left; (· (intro w' hS_; first | (go_simp; with_reducible rfl) | (go_simp; done))); rotate_left; (· first | (simp only [Act.put, List.setIfInBounds_toArray, List.set_cons_zero, List.set_cons_succ, i64_w, i32_w]; rfl) | simp only [Act.put, List.setIfInBounds_toArray, List.set_cons_zero, List.set_cons_succ, i64_w, i32_w])))
  refine run_e rfl (fun K hK => ?_)
  refine goes_ Try.func138 (by kernel_rfl) rfl #[(.int .i64 (d : Int)), (.string s)] (by rfl) rfl rfl (by simp only [List.map_toArray, List.map_cons, List.map_nil]; rfl) ?_
  refine (HCN.out _).mono ?_
  rintro e_ w1 ⟨rfl, hb⟩
  refine ⟨_, rfl, ?_⟩
  have n_ := Aside0.mk (HS.out.call hb)
  clear HS hb
  have HS := n_
  clear n_
  refine goE hK ⟨bx_c (HS.out.oldI HT.out) 2 (v := .slice (some ⟨v, 0, none⟩) N N) rfl, bx_c (HS.out.oldI HT.out) 0 (v := .int .i64 (d : Int)) rfl, HS.out.old H0.out, HS.out.old H1.out⟩ (a' := ?_) ?_ (fun hHeld => ?_)
  rotate_left
  · first | (simp only [Act.put, List.setIfInBounds_toArray, List.set_cons_zero, List.set_cons_succ, i64_w, i32_w]; rfl) | simp only [Act.put, List.setIfInBounds_toArray, List.set_cons_zero, List.set_cons_succ, i64_w, i32_w]
  clear hK K
  repeat (first | ((with_reducible refine gate_p ?_); refine run_p (v := ?_) rfl rfl (Or.inl ⟨by rfl, ?_⟩) (a' := ?_) ?_ ?_; rotate_left; (· (intro w'; first | (go_simp; with_reducible rfl) | (go_simp; done))); rotate_left; (· first | (simp only [Act.put, List.setIfInBounds_toArray, List.set_cons_zero, List.set_cons_succ, i64_w, i32_w]; rfl) | simp only [Act.put, List.setIfInBounds_toArray, List.set_cons_zero, List.set_cons_succ, i64_w, i32_w])) | ((with_reducible refine gate_t ?_); refine run_t (v := ?_) rfl rfl hHeld (Or.inl ⟨by rfl, ?_⟩) (a' := ?_) ?_ ?_; rotate_left; (· (intro w' hS_; first | (go_simp; with_reducible rfl) | (go_simp; done))); rotate_left; (· first | (simp only [Act.put, List.setIfInBounds_toArray, List.set_cons_zero, List.set_cons_succ, i64_w, i32_w]; rfl) | simp only [Act.put, List.setIfInBounds_toArray, List.set_cons_zero, List.set_cons_succ, i64_w, i32_w])))
  refine run_d rfl (fun K hK => ?_)
  refine stp_set (by rfl) rfl rfl HS 0 0 (cs' := #[.int .i64 (f s).1, .int .i64 (f s).2]) rfl rfl rfl (by kernel_rfl) rfl rfl ?_
  clear HS
  intro w1 HS
  simp only [List.set_cons_zero, List.set_cons_succ] at HS
  refine goD hK rfl ?_
  clear hK K
  refine run_done ?_
  clear hHeld
  go_wp2
  refine bodyPost_ret (results_cell_row rfl _ _ g_r 24 #[.int .i64 (f s).1, .int .i64 (f s).2] (0, 0) _ rfl (HS.out.at (i := 0) rfl) Try.underlying24 rfl (by kernel_rfl)) rfl ?_
  exact ⟨rfl, HS.out.below⟩
set_option maxHeartbeats 4000000 in
theorem implCheck (g v d n N : Nat) (bad fits : Bool) (x y : Int) (w : World) (ht : (tS g v d n N bad).I w) :
    Calls Try.prog 187 #[.pointer (some ⟨g, 0, none⟩), .agg #[.int .i64 x, .int .i64 y], .bool fits] w fun e w' => e = .returned (.agg #[.int .i64 (if fits = true then x else 0), .int .i64 (if fits = true then y else 1)]) ∧ Mod w w' (fun k => k = g) [tS g v d n N (bad || !fits)] := by
  have HS := Aside0.mk (Mod.own1 ht)
  clear ht
  cases fits with
  | true =>
    go_enter Try.func187, Try.ntmps187
    go_wp2_with (first | ((with_reducible refine gate_dst (N := 4) rfl ?_); refine wpList_stp (fun K hK => ?_); refine stp_box (by rfl) HS (cs := #[.int .i64 x, .int .i64 y]) (t := 24) (by first | (go_simp; done) | (go_simp; rfl)) ?_; clear HS; intro g_a w1 hg_a HS; refine hK _ _ ?_; clear hK K) | ((with_reducible refine gate_dst (N := 6) rfl ?_); refine wpList_stp (fun K hK => ?_); refine stp_box (by rfl) HS (cs := #[(.int .i64 0), (.int .i64 0)]) (t := 24) (by first | (go_simp; done) | (go_simp; rfl)) ?_; clear HS; intro g_r w1 hg_r HS; refine hK _ _ ?_; clear hK K; have f1_ := HS.out.c 1 0 (v := .int .i64 x) rfl rfl; have f2_ := HS.out.c 1 1 (v := .int .i64 y) rfl rfl) | ((with_reducible refine gate_store (t := 24) (p := 6) rfl ?_); refine wpList_stp (fun K hK => ?_); refine stp_set (by rfl) rfl rfl HS 0 0 (cs' := #[.int .i64 x, .int .i64 y]) rfl rfl rfl (by kernel_rfl) rfl rfl ?_; clear HS f1_ f2_; intro w1 HS; simp only [List.set_cons_zero, List.set_cons_succ] at HS; refine hK _ _ ?_; clear hK K))
    refine bodyPost_ret (results_cell_row rfl _ _ g_r 24 #[.int .i64 x, .int .i64 y] (0, 0) _ rfl (HS.out.at (i := 0) rfl) Try.underlying24 rfl (by kernel_rfl)) rfl ?_
    have n_ := Aside0.mk (HS.out.sel [2] (by decide)); clear HS; have HS := n_; clear n_; simp only [List.filterMap_cons, List.filterMap_nil, List.getElem?_cons_zero, List.getElem?_cons_succ] at HS
    exact ⟨rfl, HS.out⟩
  | false =>
    go_enter Try.func187, Try.ntmps187
    go_wp2_with (first | ((with_reducible refine gate_dst (N := 4) rfl ?_); refine wpList_stp (fun K hK => ?_); refine stp_box (by rfl) HS (cs := #[.int .i64 x, .int .i64 y]) (t := 24) (by first | (go_simp; done) | (go_simp; rfl)) ?_; clear HS; intro g_a w1 hg_a HS; refine hK _ _ ?_; clear hK K) | ((with_reducible refine gate_dst (N := 6) rfl ?_); refine wpList_stp (fun K hK => ?_); refine stp_box (by rfl) HS (cs := #[(.int .i64 0), (.int .i64 0)]) (t := 24) (by first | (go_simp; done) | (go_simp; rfl)) ?_; clear HS; intro g_r w1 hg_r HS; refine hK _ _ ?_; clear hK K) | ((with_reducible refine gate_store (t := 4) (p := 11) rfl ?_); refine wpList_stp (fun K hK => ?_); refine stp_set (by rfl) rfl rfl HS 2 3 (cs' := #[.int .i64 (d : Int), .int .i64 (n : Int), .slice (some ⟨v, 0, none⟩) N N, (.bool true)]) rfl rfl rfl (by kernel_rfl) rfl rfl ?_; clear HS; intro w1 HS; simp only [List.set_cons_zero, List.set_cons_succ] at HS; refine hK _ _ ?_; clear hK K) | (go_at_call 152; refine (implZero _).mono ?_; rintro e_ w1 ⟨rfl, hb⟩; have n_ := Aside0.mk (HS.out.call hb); clear HS hb; have HS := n_; clear n_) | ((with_reducible refine gate_store (t := 24) (p := 6) rfl ?_); refine wpList_stp (fun K hK => ?_); refine stp_set (by rfl) rfl rfl HS 0 0 (cs' := #[.int .i64 0, .int .i64 1]) rfl rfl rfl (by kernel_rfl) rfl rfl ?_; clear HS; intro w1 HS; simp only [List.set_cons_zero, List.set_cons_succ] at HS; refine hK _ _ ?_; clear hK K))
    refine bodyPost_ret (results_cell_row rfl _ _ g_r 24 #[.int .i64 0, .int .i64 1] (0, 0) _ rfl (HS.out.at (i := 0) rfl) Try.underlying24 rfl (by kernel_rfl)) rfl ?_
    have n_ := Aside0.mk (HS.out.sel [2] (by decide)); clear HS; have HS := n_; clear n_; simp only [List.filterMap_cons, List.filterMap_nil, List.getElem?_cons_zero, List.getElem?_cons_succ] at HS
    exact ⟨rfl, HS.out⟩
end Go.Proofs.Ytcklblagklojhaa.H

