/- UnitSeries, CoefficientOf, ConstantOf: what the program and the reference return. Conditions: the bounds that stand in each statement. -/
import Derived.Test.YtcklblagklojhaaKTable5
import Derived.Test.YtcklblagklojhaaKIs2
import Derived.Test.YtcklblagklojhaaKVal
namespace Go.Proofs.Ytcklblagklojhaa.M
abbrev eps : ByteArray := ⟨#[]⟩
abbrev unitT : Ts := [(eps, 1, 1)]
def unitR (d n : Int) : Rs := if lev d n = true then (d, n, unitT, 0) else noS 2
/-- What is returned: a fraction and a code. -/
abbrev Rf := Int × Int × Int
def coefR (d n : Int) (l : Ts) (s : ByteArray) : Rf := if isS d n l = true then if (s.size : Int) ≤ n ∧ isWd d.toNat s = true then ((co l s).1, (co l s).2, 0) else (0, 0, 2) else (0, 0, 1)
theorem isS_l {d n : Int} {l : Ts} (h : isS d n l = true) : lev d n = true := by rw [isS, Bool.and_eq_true] at h; exact h.1
theorem isS_t {d n : Int} {l : Ts} (h : isS d n l = true) : isTs d.toNat n.toNat l = true := by rw [isS, Bool.and_eq_true] at h; exact h.2
theorem unit_len (d n : Int) : (unitR d n).2.2.1.length ≤ 1048576 := by
  unfold unitR noS; split
  · show (1 : Nat) ≤ _; decide
  · show (0 : Nat) ≤ _; decide
theorem tabT_unit {d n : Nat} (hd : d ≤ 9) : tabT d n (upd (fun _ => (0, 1)) eps (1, 1)) = unitT := by
  have hg : good (upd (fun _ => ((0, 1) : Fr)) eps (1, 1)) := good_upd good_zero (by decide)
  refine (eq_tabT hd ?_ hg ?_).symm
  · rw [isTs_iff]
    refine ⟨fun t ht => ?_, by simp [Srt]⟩
    obtain rfl := List.mem_singleton.1 ht
    exact isTm_mk (by rfl) (Nat.zero_le _) (by decide) (by decide)
  · intro w _ _
    rw [co_cons]
    unfold upd
    by_cases h : w = eps
    · subst h; rfl
    · rw [if_neg (fun e => h e.symm), if_neg h]; rfl
end Go.Proofs.Ytcklblagklojhaa.M
namespace Go.Proofs.Ytcklblagklojhaa.H
open Go.RowKit Go.Proofs.YtcklblagklojhaaW.PrintWords Go.Proofs.YtcklblagklojhaaW.PrintLast Go.Proofs.YtcklblagklojhaaW.PrintMore Go.Proofs.Ytcklblagklojhaa.M
attribute [local go_sem] max2_int min2_int max_two min_two max_three min_three max_four min_four
set_option linter.unusedVariables false
set_option linter.unusedSimpArgs false
set_option maxRecDepth 100000
def RetF (w : World) (r : Rf) (e : Ending) (w' : World) : Prop := e = .returned (.tuple #[.agg #[.int .i64 r.1, .int .i64 r.2.1], .int .i64 r.2.2]) ∧ Below w.heap.size w w'
theorem specEmpty (d n : Int) (A : Option Addr) (m c : Nat) (w : World) : Calls Try.prog 117 #[.agg #[.int .i64 d, .int .i64 n, .slice A m c]] w fun e w' => ∃ B b, e = .returned (.agg #[.int .i64 d, .int .i64 n, .slice B 0 b]) ∧ Sep w w' [rowT B b []] := by
  have HS := Aside0.mk (Sep.refl w)
  go_enter Try.func117, Try.ntmps117
  go_wp2_with (first | ((with_reducible refine gate_dst (N := 1) rfl ?_); refine wpList_stp (fun K hK => ?_); refine stp_box (by rfl) HS (cs := #[.int .i64 d, .int .i64 n, .slice A m c]) (t := 32) (by first | (go_simp; done) | (go_simp; rfl)) ?_; clear HS; intro g_x w1 hg_x HS; refine hK _ _ ?_; clear hK K) | ((with_reducible refine gate_dst (N := 2) rfl ?_); refine wpList_stp (fun K hK => ?_); refine stp_box (by rfl) HS (cs := #[(.int .i64 0), (.int .i64 0), (.slice none 0 0)]) (t := 32) (by first | (go_simp; done) | (go_simp; rfl)) ?_; clear HS; intro g_r w1 hg_r HS; refine hK _ _ ?_; clear hK K; have f1_ := HS.out.c 1 0 (v := .int .i64 d) rfl rfl; have f2_ := HS.out.c 1 1 (v := .int .i64 n) rfl rfl) | ((with_reducible refine gate_dst (N := 7) rfl ?_); refine wpList_stp (fun K hK => ?_); refine stp_lit (KT) rfl 77 (by rfl) HS (xs := ([] : Ts)) (inner := []) (by first | (go_simp; done) | (go_simp; rfl)) (fun W base ok => Reps.none _ _) (by simp) ?_; clear HS f1_ f2_; intro A_z c_z w1 HS; refine hK _ _ ?_; clear hK K) | ((with_reducible refine gate_store (t := 32) (p := 2) rfl ?_); refine wpList_stp (fun K hK => ?_); refine stp_set (by rfl) rfl rfl HS 1 0 (cs' := #[(.int .i64 d), (.int .i64 n), (.slice A_z (([] : Ts)).length c_z)]) rfl rfl rfl (by kernel_rfl) rfl rfl ?_; clear HS; intro w1 HS; simp only [List.set_cons_zero, List.set_cons_succ] at HS; refine hK _ _ ?_; clear hK K))
  refine bodyPost_ret (results_cell_row rfl _ _ g_r 32 #[(.int .i64 d), (.int .i64 n), (.slice A_z (([] : Ts)).length c_z)] (0, 0) _ rfl (HS.out.at (i := 1) rfl) Try.underlying32 rfl (by kernel_rfl)) rfl ?_
  have n_ := Aside0.mk (HS.out.sel [0] (by decide)); clear HS; have HS := n_; clear n_; simp only [List.filterMap_cons, List.filterMap_nil, List.getElem?_cons_zero, List.getElem?_cons_succ] at HS
  exact ⟨A_z, c_z, rfl, HS.out⟩
theorem specOne (k : Int) (w : World) : Calls Try.prog 162 #[.int .i64 k] w fun e w' => e = .returned (.agg #[.int .i64 k, .int .i64 1]) ∧ Below w.heap.size w w' := by
  have HS := Aside0.mk (Sep.refl w)
  go_enter Try.func162, Try.ntmps162
  go_wp2_with (first | ((with_reducible refine gate_dst (N := 2) rfl ?_); refine wpList_stp (fun K hK => ?_); refine stp_box (by rfl) HS (cs := #[(.int .i64 0), (.int .i64 0)]) (t := 24) (by first | (go_simp; done) | (go_simp; rfl)) ?_; clear HS; intro g_r w1 hg_r HS; refine hK _ _ ?_; clear hK K) | ((with_reducible refine gate_store (t := 24) (p := 2) rfl ?_); refine wpList_stp (fun K hK => ?_); refine stp_set (by rfl) rfl rfl HS 0 0 (cs' := #[(.int .i64 k), (.int .i64 1)]) rfl rfl rfl (by kernel_rfl) rfl rfl ?_; clear HS; intro w1 HS; simp only [List.set_cons_zero, List.set_cons_succ] at HS; refine hK _ _ ?_; clear hK K))
  refine bodyPost_ret (results_cell_row rfl _ _ g_r 24 #[(.int .i64 k), (.int .i64 1)] (0, 0) _ rfl (HS.out.at (i := 0) rfl) Try.underlying24 rfl (by kernel_rfl)) rfl ?_
  exact ⟨rfl, HS.out.below⟩
set_option maxHeartbeats 4000000 in
theorem specUnit (d n : Int) (A : Option Addr) (m c : Nat) (w : World) : Calls Try.prog 113 #[.agg #[.int .i64 d, .int .i64 n, .slice A m c]] w fun e w' => ∃ B b, e = .returned (.agg #[.int .i64 d, .int .i64 n, .slice B unitT.length b]) ∧ Sep w w' [rowT B b unitT] := by
  have HS := Aside0.mk (Sep.refl w)
  go_enter Try.func113, Try.ntmps113
  go_wp2_with (first | ((with_reducible refine gate_dst (N := 1) rfl ?_); refine wpList_stp (fun K hK => ?_); refine stp_box (by rfl) HS (cs := #[.int .i64 d, .int .i64 n, .slice A m c]) (t := 32) (by first | (go_simp; done) | (go_simp; rfl)) ?_; clear HS; intro g_x w1 hg_x HS; refine hK _ _ ?_; clear hK K) | ((with_reducible refine gate_dst (N := 2) rfl ?_); refine wpList_stp (fun K hK => ?_); refine stp_box (by rfl) HS (cs := #[(.int .i64 0), (.int .i64 0), (.slice none 0 0)]) (t := 32) (by first | (go_simp; done) | (go_simp; rfl)) ?_; clear HS; intro g_r w1 hg_r HS; refine hK _ _ ?_; clear hK K; have f1_ := HS.out.c 1 0 (v := .int .i64 d) rfl rfl; have f2_ := HS.out.c 1 1 (v := .int .i64 n) rfl rfl; have f3_ := HS.out.c 1 2 (v := .slice A m c) rfl rfl) | (go_at_call 117; refine (specEmpty d n A m c _).mono ?_; rintro e_ w1 ⟨B, b, rfl, hs⟩; have n_ := Aside0.mk (HS.out.new hs); clear HS f1_ f2_ f3_ hs; have HS := n_; clear n_; simp only [List.cons_append, List.nil_append] at HS) | ((with_reducible refine gate_dst (N := 3) rfl ?_); refine wpList_stp (fun K hK => ?_); refine stp_box (by rfl) HS (cs := #[(.int .i64 0), (.int .i64 0), (.slice none 0 0)]) (t := 32) (by first | (go_simp; done) | (go_simp; rfl)) ?_; clear HS; intro g_y w1 hg_y HS; refine hK _ _ ?_; clear hK K) | ((with_reducible refine gate_store (t := 32) (p := 3) rfl ?_); refine wpList_stp (fun K hK => ?_); refine stp_set (by rfl) rfl rfl HS 0 0 (cs' := #[.int .i64 d, .int .i64 n, .slice B ([] : Ts).length b]) rfl rfl rfl (by kernel_rfl) rfl rfl ?_; clear HS; intro w1 HS; simp only [List.set_cons_zero, List.set_cons_succ] at HS; refine hK _ _ ?_; clear hK K))
  have n_ := Aside0.mk HS.out.drew
  clear HS
  have HS := n_
  clear n_
  refine plan_start (.p 0 (.t 1 (.e 2 (.p 3 (.e 4 (.d 5 (.p 6 (.d 7 .done)))))))) (fun w' => w'.cell? ⟨g_y, 2, none⟩ = some (.slice B ([] : Ts).length b)) [5, 7] (by kernel_rfl) (by kernel_rfl) (fun c_ a_ d_ v_ w_ h_ => by cases d_ <;> exact h_) (HS.out.c 0 2 (v := .slice B ([] : Ts).length b) rfl rfl) (fun hHeld => ?_)
  repeat (first | ((with_reducible refine gate_p ?_); refine run_p (v := ?_) rfl rfl (Or.inl ⟨by rfl, ?_⟩) (a' := ?_) ?_ ?_; rotate_left; (· (intro w'; first | (go_simp; with_reducible rfl) | (go_simp; done))); rotate_left; (· first | (simp only [Act.put, List.setIfInBounds_toArray, List.set_cons_zero, List.set_cons_succ, i64_w, i32_w]; rfl) | simp only [Act.put, List.setIfInBounds_toArray, List.set_cons_zero, List.set_cons_succ, i64_w, i32_w])) | ((with_reducible refine gate_t ?_); refine run_t (v := ?_) rfl rfl hHeld (Or.inl ⟨by rfl, ?_⟩) (a' := ?_) ?_ ?_; rotate_left; (· (intro w' hS_; first | (go_simp; with_reducible rfl) | (go_simp; done))); rotate_left; (· first | (simp only [Act.put, List.setIfInBounds_toArray, List.set_cons_zero, List.set_cons_succ, i64_w, i32_w]; rfl) | simp only [Act.put, List.setIfInBounds_toArray, List.set_cons_zero, List.set_cons_succ, i64_w, i32_w])))
  refine run_e rfl (fun K hK => ?_)
  refine goes_ Try.func162 (by kernel_rfl) rfl #[(.int .i64 1)] (by rfl) rfl rfl (by simp only [List.map_toArray, List.map_cons, List.map_nil]; rfl) ?_
  refine (specOne 1 _).mono ?_
  rintro e_ w1 ⟨rfl, hb⟩
  refine ⟨_, rfl, ?_⟩
  have n_ := Aside0.mk (HS.out.call hb)
  clear HS hb
  have HS := n_
  clear n_
  refine goE hK (HS.out.c 0 2 (v := .slice B ([] : Ts).length b) rfl rfl) (a' := ?_) ?_ (fun hHeld => ?_)
  rotate_left
  · first | (simp only [Act.put, List.setIfInBounds_toArray, List.set_cons_zero, List.set_cons_succ, i64_w, i32_w]; rfl) | simp only [Act.put, List.setIfInBounds_toArray, List.set_cons_zero, List.set_cons_succ, i64_w, i32_w]
  clear hK K
  repeat (first | ((with_reducible refine gate_p ?_); refine run_p (v := ?_) rfl rfl (Or.inl ⟨by rfl, ?_⟩) (a' := ?_) ?_ ?_; rotate_left; (· (intro w'; first | (go_simp; with_reducible rfl) | (go_simp; done))); rotate_left; (· first | (simp only [Act.put, List.setIfInBounds_toArray, List.set_cons_zero, List.set_cons_succ, i64_w, i32_w]; rfl) | simp only [Act.put, List.setIfInBounds_toArray, List.set_cons_zero, List.set_cons_succ, i64_w, i32_w])) | ((with_reducible refine gate_t ?_); refine run_t (v := ?_) rfl rfl hHeld (Or.inl ⟨by rfl, ?_⟩) (a' := ?_) ?_ ?_; rotate_left; (· (intro w' hS_; first | (go_simp; with_reducible rfl) | (go_simp; done))); rotate_left; (· first | (simp only [Act.put, List.setIfInBounds_toArray, List.set_cons_zero, List.set_cons_succ, i64_w, i32_w]; rfl) | simp only [Act.put, List.setIfInBounds_toArray, List.set_cons_zero, List.set_cons_succ, i64_w, i32_w])))
  refine run_e rfl (fun K hK => ?_)
  refine stp_lit (KT) rfl 77 (by rfl) HS (xs := [((eps, 1, 1) : Tm)]) (inner := [.string eps, .int .i64 1, .int .i64 1]) (by first | (go_simp; done) | (go_simp; rfl)) (fun W base ok => Reps.snoc (Reps.none _ _) (KT_M (eps, 1, 1) W base ok) rfl) (by simp) ?_
  clear HS
  intro A_z c_z w1 HS
  refine goE hK (HS.out.c 1 2 (v := .slice B ([] : Ts).length b) rfl rfl) (a' := ?_) ?_ (fun hHeld => ?_)
  rotate_left
  · first | (simp only [Act.put, List.setIfInBounds_toArray, List.set_cons_zero, List.set_cons_succ, i64_w, i32_w]; rfl) | simp only [Act.put, List.setIfInBounds_toArray, List.set_cons_zero, List.set_cons_succ, i64_w, i32_w]
  clear hK K
  refine run_d rfl (fun K hK => ?_)
  refine stp_rows KT rfl (fun _ _ _ _ _ h => h) (by rfl) HS 2 (xs := []) rfl (.tmp 7) (.tmp 10) 30 (.agg #[(.string ⟨#[]⟩), (.int .i64 0), (.int .i64 0)]) 32 rfl Try.underlying30 infoTerm (by kernel_rfl) [((eps, 1, 1) : Tm)] rfl rfl (HS.out.reads 0 rfl) (by decide) ?_
  clear HS
  intro A_y' c_y' y' w1 Ny' HS
  simp only [List.set_cons_zero, List.set_cons_succ] at HS
  refine goD hK (a' := ?_) ?_ ?_
  rotate_left
  · first | (simp only [Act.put, List.setIfInBounds_toArray, List.set_cons_zero, List.set_cons_succ, i64_w, i32_w]; rfl) | simp only [Act.put, List.setIfInBounds_toArray, List.set_cons_zero, List.set_cons_succ, i64_w, i32_w]
  clear hK K
  repeat (first | ((with_reducible refine gate_p ?_); refine run_p (v := ?_) rfl rfl (Or.inl ⟨by rfl, ?_⟩) (a' := ?_) ?_ ?_; rotate_left; (· (intro w'; first | (go_simp; with_reducible rfl) | (go_simp; done))); rotate_left; (· first | (simp only [Act.put, List.setIfInBounds_toArray, List.set_cons_zero, List.set_cons_succ, i64_w, i32_w]; rfl) | simp only [Act.put, List.setIfInBounds_toArray, List.set_cons_zero, List.set_cons_succ, i64_w, i32_w])) | ((with_reducible refine gate_t ?_); refine run_t (v := ?_) rfl rfl hHeld (Or.inl ⟨by rfl, ?_⟩) (a' := ?_) ?_ ?_; rotate_left; (· (intro w' hS_; first | (go_simp; with_reducible rfl) | (go_simp; done))); rotate_left; (· first | (simp only [Act.put, List.setIfInBounds_toArray, List.set_cons_zero, List.set_cons_succ, i64_w, i32_w]; rfl) | simp only [Act.put, List.setIfInBounds_toArray, List.set_cons_zero, List.set_cons_succ, i64_w, i32_w])))
  refine run_d rfl (fun K hK => ?_)
  refine stp_set (by rfl) rfl rfl HS 1 2 (cs' := #[.int .i64 d, .int .i64 n, (.slice A_y' y'.length c_y')]) rfl rfl rfl (by kernel_rfl) rfl rfl ?_
  clear HS
  intro w1 HS
  simp only [List.set_cons_zero, List.set_cons_succ] at HS
  refine goD hK rfl ?_
  clear hK K
  refine run_done ?_
  clear hHeld
  have f1_ := HS.out.c 1 0 (v := .int .i64 d) rfl rfl
  have f2_ := HS.out.c 1 1 (v := .int .i64 n) rfl rfl
  have f3_ := HS.out.c 1 2 (v := (.slice A_y' y'.length c_y')) rfl rfl
  go_wp2_with (first | ((with_reducible refine gate_store (t := 32) (p := 2) rfl ?_); refine wpList_stp (fun K hK => ?_); refine stp_set (by rfl) rfl rfl HS 3 0 (cs' := #[.int .i64 d, .int .i64 n, (.slice A_y' y'.length c_y')]) rfl rfl rfl (by kernel_rfl) rfl rfl ?_; clear HS f1_ f2_ f3_; intro w1 HS; simp only [List.set_cons_zero, List.set_cons_succ] at HS; refine hK _ _ ?_; clear hK K))
  refine bodyPost_ret (results_cell_row rfl _ _ g_r 32 #[.int .i64 d, .int .i64 n, (.slice A_y' y'.length c_y')] (0, 0) _ rfl (HS.out.at (i := 3) rfl) Try.underlying32 rfl (by kernel_rfl)) rfl ?_
  obtain rfl := Ny'.out
  have n_ := Aside0.mk (HS.out.sel [2] (by decide)); clear HS; have HS := n_; clear n_; simp only [List.filterMap_cons, List.filterMap_nil, List.getElem?_cons_zero, List.getElem?_cons_succ] at HS
  exact ⟨A_y', c_y', rfl, HS.out⟩
theorem nilS {w W : World} (h : Sep w W []) : Sep w W [rowT none 0 []] := by
  have := (h.nil (d := KT) (hE := rfl) (e := 77))
  exact this
set_option maxHeartbeats 4000000 in
theorem specUnitSeries (d n : Int) (w : World) : Calls Try.prog 43 #[.int .i64 d, .int .i64 n] w (RetS w (unitR d n)) := by
  have HS := Aside0.mk (Sep.refl w)
  unfold unitR
  cases h : lev d n with
  | false =>
    go_enter Try.func43, Try.ntmps43
    go_wp2_with (first | ((with_reducible refine gate_dst (N := 4) rfl ?_); refine wpList_stp (fun K hK => ?_); refine stp_box (by rfl) HS (cs := #[(.int .i64 0), (.int .i64 0), (.slice none 0 0)]) (t := 32) (by first | (go_simp; done) | (go_simp; rfl)) ?_; clear HS; intro g_r w1 hg_r HS; refine hK _ _ ?_; clear hK K) | (go_at_call 112; refine (specLevel2 _ _ _).mono ?_; rintro e_ w1 ⟨rfl, hb⟩; have n_ := Aside0.mk (HS.out.call hb); clear HS hb; have HS := n_; clear n_) | ((with_reducible refine gate_store (t := 32) (p := 4) rfl ?_); refine wpList_stp (fun K hK => ?_); refine stp_set (by rfl) rfl rfl HS 0 0 (cs' := #[(.int .i64 0), (.int .i64 0), (.slice none 0 0)]) rfl rfl rfl (by kernel_rfl) rfl rfl ?_; clear HS; intro w1 HS; simp only [List.set_cons_zero, List.set_cons_succ] at HS; refine hK _ _ ?_; clear hK K))
    refine bodyPost_ret (results_cell_tmp_row rfl _ _ g_r 32 #[(.int .i64 0), (.int .i64 0), (.slice none 0 0)] (0, 0) _ rfl (HS.out.at (i := 0) rfl) Try.underlying32 rfl (by kernel_rfl)) rfl ?_
    have n_ := Aside0.mk (HS.out.sel [] (by decide)); clear HS; have HS := n_; clear n_; simp only [List.filterMap_cons, List.filterMap_nil, List.getElem?_cons_zero, List.getElem?_cons_succ] at HS
    exact ⟨none, 0, rfl, nilS HS.out⟩
  | true =>
    go_enter Try.func43, Try.ntmps43
    go_wp2_with (first | ((with_reducible refine gate_dst (N := 4) rfl ?_); refine wpList_stp (fun K hK => ?_); refine stp_box (by rfl) HS (cs := #[(.int .i64 0), (.int .i64 0), (.slice none 0 0)]) (t := 32) (by first | (go_simp; done) | (go_simp; rfl)) ?_; clear HS; intro g_r w1 hg_r HS; refine hK _ _ ?_; clear hK K) | (go_at_call 112; refine (specLevel2 _ _ _).mono ?_; rintro e_ w1 ⟨rfl, hb⟩; have n_ := Aside0.mk (HS.out.call hb); clear HS hb; have HS := n_; clear n_) | (go_at_call 113; refine (specUnit d n none 0 0 _).mono ?_; rintro e_ w1 ⟨B, b, rfl, hs⟩; have n_ := Aside0.mk (HS.out.new hs); clear HS hs; have HS := n_; clear n_; simp only [List.cons_append, List.nil_append] at HS) | ((with_reducible refine gate_store (t := 32) (p := 4) rfl ?_); refine wpList_stp (fun K hK => ?_); refine stp_set (by rfl) rfl rfl HS 1 0 (cs' := #[.int .i64 d, .int .i64 n, .slice B unitT.length b]) rfl rfl rfl (by kernel_rfl) rfl rfl ?_; clear HS; intro w1 HS; simp only [List.set_cons_zero, List.set_cons_succ] at HS; refine hK _ _ ?_; clear hK K))
    refine bodyPost_ret (results_cell_tmp_row rfl _ _ g_r 32 #[.int .i64 d, .int .i64 n, .slice B unitT.length b] (0, 0) _ rfl (HS.out.at (i := 1) rfl) Try.underlying32 rfl (by kernel_rfl)) rfl ?_
    have n_ := Aside0.mk (HS.out.sel [0] (by decide)); clear HS; have HS := n_; clear n_; simp only [List.filterMap_cons, List.filterMap_nil, List.getElem?_cons_zero, List.getElem?_cons_succ] at HS
    exact ⟨B, b, rfl, HS.out⟩
set_option maxHeartbeats 4000000 in
theorem implUnitSeries (d n : Int) (w : World) : Calls Try.prog 44 #[.int .i64 d, .int .i64 n] w (RetS w (unitR d n)) := by
  have HS := Aside0.mk (Sep.refl w)
  unfold unitR
  cases h : lev d n with
  | false =>
    go_enter Try.func44, Try.ntmps44
    go_wp2_with (first | ((with_reducible refine gate_dst (N := 4) rfl ?_); refine wpList_stp (fun K hK => ?_); refine stp_box (by rfl) HS (cs := #[(.int .i64 0), (.int .i64 0), (.slice none 0 0)]) (t := 32) (by first | (go_simp; done) | (go_simp; rfl)) ?_; clear HS; intro g_r w1 hg_r HS; refine hK _ _ ?_; clear hK K) | (go_at_call 101; refine (implLevel _ _ _).mono ?_; rintro e_ w1 ⟨rfl, hb⟩; have n_ := Aside0.mk (HS.out.call hb); clear HS hb; have HS := n_; clear n_) | ((with_reducible refine gate_store (t := 32) (p := 4) rfl ?_); refine wpList_stp (fun K hK => ?_); refine stp_set (by rfl) rfl rfl HS 0 0 (cs' := #[(.int .i64 0), (.int .i64 0), (.slice none 0 0)]) rfl rfl rfl (by kernel_rfl) rfl rfl ?_; clear HS; intro w1 HS; simp only [List.set_cons_zero, List.set_cons_succ] at HS; refine hK _ _ ?_; clear hK K))
    refine bodyPost_ret (results_cell_tmp_row rfl _ _ g_r 32 #[(.int .i64 0), (.int .i64 0), (.slice none 0 0)] (0, 0) _ rfl (HS.out.at (i := 0) rfl) Try.underlying32 rfl (by kernel_rfl)) rfl ?_
    have n_ := Aside0.mk (HS.out.sel [] (by decide)); clear HS; have HS := n_; clear n_; simp only [List.filterMap_cons, List.filterMap_nil, List.getElem?_cons_zero, List.getElem?_cons_succ] at HS
    exact ⟨none, 0, rfl, nilS HS.out⟩
  | true =>
    obtain ⟨d, n, rfl, rfl, hd1, hd3, hn1, hn5⟩ := lev_nat h
    have HL := Aside0.mk h
    have HU := Aside0.mk (show toldR d n (upd (fun _ => (0, 1)) eps (1, 1), false) = ((d : Int), (n : Int), unitT, 0) by unfold toldR; rw [if_neg (by simp), tabT_unit (by omega)])
    have HTo := Aside0.mk (fun g v W h1 h2 => HU.out ▸ implTold g v d n false (upd (fun _ => (0, 1)) eps (1, 1)) W HL.out h1 h2)
    go_enter Try.func44, Try.ntmps44
    go_wp2_with (first | ((with_reducible refine gate_dst (N := 4) rfl ?_); refine wpList_stp (fun K hK => ?_); refine stp_box (by rfl) HS (cs := #[(.int .i64 0), (.int .i64 0), (.slice none 0 0)]) (t := 32) (by first | (go_simp; done) | (go_simp; rfl)) ?_; clear HS; intro g_r w1 hg_r HS; refine hK _ _ ?_; clear hK K) | (go_at_call 101; refine (implLevel _ _ _).mono ?_; rintro e_ w1 ⟨rfl, hb⟩; have n_ := Aside0.mk (HS.out.call hb); clear HS hb; have HS := n_; clear n_) | (go_at_call 114; refine (implNew d n HL.out _).mono ?_; rintro e_ w1 ⟨g, v, rfl, hs⟩; have n_ := Aside0.mk (HS.out.new hs); clear HS hs; have HS := n_; clear n_; simp only [List.cons_append, List.nil_append] at HS) | (go_at_call 115; refine (implUnit g v d n _ false _ HL.out (HS.out.at (i := 0) rfl)).mono ?_; rintro e_ w1 ⟨g', v', rfl, hs⟩; have n_ := Aside0.mk (HS.out.new hs); clear HS hs; have HS := n_; clear n_; simp only [List.cons_append, List.nil_append] at HS) | (go_at_call 116; refine (HTo.out g' v' _ (HS.out.at (i := 0) rfl) (HS.out.at (i := 1) rfl)).mono ?_; rintro e_ w1 ⟨B, b, rfl, hs⟩; have n_ := Aside0.mk (HS.out.new hs); clear HS hs; have HS := n_; clear n_; simp only [List.cons_append, List.nil_append] at HS) | ((with_reducible refine gate_store (t := 32) (p := 4) rfl ?_); refine wpList_stp (fun K hK => ?_); refine stp_set (by rfl) rfl rfl HS 5 0 (cs' := #[.int .i64 (d : Int), .int .i64 (n : Int), .slice B unitT.length b]) rfl rfl rfl (by kernel_rfl) rfl rfl ?_; clear HS; intro w1 HS; simp only [List.set_cons_zero, List.set_cons_succ] at HS; refine hK _ _ ?_; clear hK K))
    refine bodyPost_ret (results_cell_tmp_row rfl _ _ g_r 32 #[.int .i64 (d : Int), .int .i64 (n : Int), .slice B unitT.length b] (0, 0) _ rfl (HS.out.at (i := 5) rfl) Try.underlying32 rfl (by kernel_rfl)) rfl ?_
    have n_ := Aside0.mk (HS.out.sel [0] (by decide)); clear HS; have HS := n_; clear n_; simp only [List.filterMap_cons, List.filterMap_nil, List.getElem?_cons_zero, List.getElem?_cons_succ] at HS
    exact ⟨B, b, rfl, HS.out⟩
set_option maxHeartbeats 4000000 in
theorem specCoefficientOf (d n : Int) (A : Option Addr) (c : Nat) (l : Ts) (s : ByteArray) (w : World) (hr : KT.C w A l.length l) (hc : l.length ≤ c) (hb : bnd l = true) (hsz : s.size ≤ 1048576) :
    Calls Try.prog 51 #[.agg #[.int .i64 d, .int .i64 n, .slice A l.length c], .string s] w (RetF w (coefR d n l s)) := by
  have HR := Aside0.mk hr
  have HB := Aside0.mk hb
  have hll := (bnd_iff.1 hb).1
  have HS := Aside0.mk (Sep.refl w)
  clear hr hb
  unfold coefR
  cases h : isS d n l with
  | false =>
    go_enter Try.func51, Try.ntmps51
    go_wp2_with (first | ((with_reducible refine gate_dst (N := 2) rfl ?_); refine wpList_stp (fun K hK => ?_); refine stp_box (by rfl) HS (cs := #[.int .i64 d, .int .i64 n, .slice A l.length c]) (t := 32) (by first | (go_simp; done) | (go_simp; rfl)) ?_; clear HS; intro g_x w1 hg_x HS; refine hK _ _ ?_; clear hK K) | ((with_reducible refine gate_dst (N := 4) rfl ?_); refine wpList_stp (fun K hK => ?_); refine stp_box (by rfl) HS (cs := #[(.int .i64 0), (.int .i64 0)]) (t := 24) (by first | (go_simp; done) | (go_simp; rfl)) ?_; clear HS; intro g_r w1 hg_r HS; refine hK _ _ ?_; clear hK K; have f1_ := HS.out.c 1 0 (v := .int .i64 d) rfl rfl; have f2_ := HS.out.c 1 1 (v := .int .i64 n) rfl rfl; have f3_ := HS.out.c 1 2 (v := .slice A l.length c) rfl rfl) | (go_at_call 109; refine (specIs d n A c l _ (HS.out.oldC HR.out) hc HB.out).mono ?_; rintro e_ w1 ⟨rfl, hb⟩; have n_ := Aside0.mk (HS.out.call hb); clear HS f1_ f2_ f3_ hb; have HS := n_; clear n_) | ((with_reducible refine gate_store (t := 24) (p := 4) rfl ?_); refine wpList_stp (fun K hK => ?_); refine stp_set (by rfl) rfl rfl HS 0 0 (cs' := #[(.int .i64 0), (.int .i64 0)]) rfl rfl rfl (by kernel_rfl) rfl rfl ?_; clear HS; intro w1 HS; simp only [List.set_cons_zero, List.set_cons_succ] at HS; refine hK _ _ ?_; clear hK K))
    refine bodyPost_ret (results_cell_tmp_row rfl _ _ g_r 24 #[(.int .i64 0), (.int .i64 0)] (0, 0) _ rfl (HS.out.at (i := 0) rfl) Try.underlying24 rfl (by kernel_rfl)) rfl ?_
    exact ⟨rfl, HS.out.below⟩
  | true =>
    obtain ⟨d, n, rfl, rfl, hd1, hd3, hn1, hn5⟩ := lev_nat (isS_l h)
    by_cases hn : (n : Int) < s.size
    · have hnn : ¬ ((s.size : Int) ≤ n ∧ isWd (d : Int).toNat s = true) := fun h => by omega
      rw [if_pos rfl, if_neg hnn]
      have hgt : ¬ ((s.size : Int) ≤ n) := by omega
      clear hnn
      go_enter Try.func51, Try.ntmps51
      go_wp2_with (first | ((with_reducible refine gate_dst (N := 2) rfl ?_); refine wpList_stp (fun K hK => ?_); refine stp_box (by rfl) HS (cs := #[.int .i64 (d : Int), .int .i64 (n : Int), .slice A l.length c]) (t := 32) (by first | (go_simp; done) | (go_simp; rfl)) ?_; clear HS; intro g_x w1 hg_x HS; refine hK _ _ ?_; clear hK K) | ((with_reducible refine gate_dst (N := 4) rfl ?_); refine wpList_stp (fun K hK => ?_); refine stp_box (by rfl) HS (cs := #[(.int .i64 0), (.int .i64 0)]) (t := 24) (by first | (go_simp; done) | (go_simp; rfl)) ?_; clear HS; intro g_r w1 hg_r HS; refine hK _ _ ?_; clear hK K; have f1_ := HS.out.c 1 0 (v := .int .i64 (d : Int)) rfl rfl; have f2_ := HS.out.c 1 1 (v := .int .i64 (n : Int)) rfl rfl; have f3_ := HS.out.c 1 2 (v := .slice A l.length c) rfl rfl) | (go_at_call 109; refine (specIs d n A c l _ (HS.out.oldC HR.out) hc HB.out).mono ?_; rintro e_ w1 ⟨rfl, hb⟩; have n_ := Aside0.mk (HS.out.call hb); clear HS f1_ f2_ f3_ hb; have HS := n_; clear n_; have f1_ := HS.out.c 1 1 (v := .int .i64 (n : Int)) rfl rfl) | ((with_reducible refine gate_store (t := 24) (p := 4) rfl ?_); refine wpList_stp (fun K hK => ?_); refine stp_set (by rfl) rfl rfl HS 0 0 (cs' := #[(.int .i64 0), (.int .i64 0)]) rfl rfl rfl (by kernel_rfl) rfl rfl ?_; clear HS f1_; intro w1 HS; simp only [List.set_cons_zero, List.set_cons_succ] at HS; refine hK _ _ ?_; clear hK K))
      refine bodyPost_ret (results_cell_tmp_row rfl _ _ g_r 24 #[(.int .i64 0), (.int .i64 0)] (0, 0) _ rfl (HS.out.at (i := 0) rfl) Try.underlying24 rfl (by kernel_rfl)) rfl ?_
      exact ⟨rfl, HS.out.below⟩
    · cases hw : isWd d s with
      | false =>
        have hnn : ¬ ((s.size : Int) ≤ n ∧ isWd (d : Int).toNat s = true) := fun h => by have := h.2; rw [Int.toNat_natCast, hw] at this; cases this
        rw [if_pos rfl, if_neg hnn]
        clear hnn
        go_enter Try.func51, Try.ntmps51
        go_wp2_with (first | ((with_reducible refine gate_dst (N := 2) rfl ?_); refine wpList_stp (fun K hK => ?_); refine stp_box (by rfl) HS (cs := #[.int .i64 (d : Int), .int .i64 (n : Int), .slice A l.length c]) (t := 32) (by first | (go_simp; done) | (go_simp; rfl)) ?_; clear HS; intro g_x w1 hg_x HS; refine hK _ _ ?_; clear hK K) | ((with_reducible refine gate_dst (N := 4) rfl ?_); refine wpList_stp (fun K hK => ?_); refine stp_box (by rfl) HS (cs := #[(.int .i64 0), (.int .i64 0)]) (t := 24) (by first | (go_simp; done) | (go_simp; rfl)) ?_; clear HS; intro g_r w1 hg_r HS; refine hK _ _ ?_; clear hK K; have f1_ := HS.out.c 1 0 (v := .int .i64 (d : Int)) rfl rfl; have f2_ := HS.out.c 1 1 (v := .int .i64 (n : Int)) rfl rfl; have f3_ := HS.out.c 1 2 (v := .slice A l.length c) rfl rfl) | (go_at_call 109; refine (specIs d n A c l _ (HS.out.oldC HR.out) hc HB.out).mono ?_; rintro e_ w1 ⟨rfl, hb⟩; have n_ := Aside0.mk (HS.out.call hb); clear HS f1_ f2_ f3_ hb; have HS := n_; clear n_; have f1_ := HS.out.c 1 1 (v := .int .i64 (n : Int)) rfl rfl; have f2_ := HS.out.c 1 0 (v := .int .i64 (d : Int)) rfl rfl) | (go_at_call 123; refine (specWord d (by omega) s (by omega) _).mono ?_; rintro e_ w1 ⟨rfl, hb⟩; have n_ := Aside0.mk (HS.out.call hb); clear HS f1_ f2_ hb; have HS := n_; clear n_) | ((with_reducible refine gate_store (t := 24) (p := 4) rfl ?_); refine wpList_stp (fun K hK => ?_); refine stp_set (by rfl) rfl rfl HS 0 0 (cs' := #[(.int .i64 0), (.int .i64 0)]) rfl rfl rfl (by kernel_rfl) rfl rfl ?_; clear HS; intro w1 HS; simp only [List.set_cons_zero, List.set_cons_succ] at HS; refine hK _ _ ?_; clear hK K))
        refine bodyPost_ret (results_cell_tmp_row rfl _ _ g_r 24 #[(.int .i64 0), (.int .i64 0)] (0, 0) _ rfl (HS.out.at (i := 0) rfl) Try.underlying24 rfl (by kernel_rfl)) rfl ?_
        exact ⟨rfl, HS.out.below⟩
      | true =>
        have hnn : (s.size : Int) ≤ n ∧ isWd (d : Int).toNat s = true := ⟨by omega, by rw [Int.toNat_natCast]; exact hw⟩
        rw [if_pos rfl, if_pos hnn]
        clear hnn
        go_enter Try.func51, Try.ntmps51
        go_wp2_with (first | ((with_reducible refine gate_dst (N := 2) rfl ?_); refine wpList_stp (fun K hK => ?_); refine stp_box (by rfl) HS (cs := #[.int .i64 (d : Int), .int .i64 (n : Int), .slice A l.length c]) (t := 32) (by first | (go_simp; done) | (go_simp; rfl)) ?_; clear HS; intro g_x w1 hg_x HS; refine hK _ _ ?_; clear hK K) | ((with_reducible refine gate_dst (N := 4) rfl ?_); refine wpList_stp (fun K hK => ?_); refine stp_box (by rfl) HS (cs := #[(.int .i64 0), (.int .i64 0)]) (t := 24) (by first | (go_simp; done) | (go_simp; rfl)) ?_; clear HS; intro g_r w1 hg_r HS; refine hK _ _ ?_; clear hK K; have f1_ := HS.out.c 1 0 (v := .int .i64 (d : Int)) rfl rfl; have f2_ := HS.out.c 1 1 (v := .int .i64 (n : Int)) rfl rfl; have f3_ := HS.out.c 1 2 (v := .slice A l.length c) rfl rfl) | (go_at_call 109; refine (specIs d n A c l _ (HS.out.oldC HR.out) hc HB.out).mono ?_; rintro e_ w1 ⟨rfl, hb⟩; have n_ := Aside0.mk (HS.out.call hb); clear HS f1_ f2_ f3_ hb; have HS := n_; clear n_; have f1_ := HS.out.c 1 1 (v := .int .i64 (n : Int)) rfl rfl; have f2_ := HS.out.c 1 0 (v := .int .i64 (d : Int)) rfl rfl) | (go_at_call 123; refine (specWord d (by omega) s (by omega) _).mono ?_; rintro e_ w1 ⟨rfl, hb⟩; have n_ := Aside0.mk (HS.out.call hb); clear HS f1_ f2_ hb; have HS := n_; clear n_; have f1_ := HS.out.c 1 0 (v := .int .i64 (d : Int)) rfl rfl; have f2_ := HS.out.c 1 1 (v := .int .i64 (n : Int)) rfl rfl; have f3_ := HS.out.c 1 2 (v := .slice A l.length c) rfl rfl) | (go_at_call 124; refine (specValue d n A c l s _ (HS.out.oldC HR.out) hc hll).mono ?_; rintro e_ w1 ⟨rfl, hb⟩; have n_ := Aside0.mk (HS.out.call hb); clear HS f1_ f2_ f3_ hb; have HS := n_; clear n_) | ((with_reducible refine gate_store (t := 24) (p := 4) rfl ?_); refine wpList_stp (fun K hK => ?_); refine stp_set (by rfl) rfl rfl HS 0 0 (cs' := #[.int .i64 (co l s).1, .int .i64 (co l s).2]) rfl rfl rfl (by kernel_rfl) rfl rfl ?_; clear HS; intro w1 HS; simp only [List.set_cons_zero, List.set_cons_succ] at HS; refine hK _ _ ?_; clear hK K))
        refine bodyPost_ret (results_cell_tmp_row rfl _ _ g_r 24 #[.int .i64 (co l s).1, .int .i64 (co l s).2] (0, 0) _ rfl (HS.out.at (i := 0) rfl) Try.underlying24 rfl (by kernel_rfl)) rfl ?_
        exact ⟨rfl, HS.out.below⟩
set_option maxHeartbeats 4000000 in
theorem implCoefficientOf (d n : Int) (A : Option Addr) (c : Nat) (l : Ts) (s : ByteArray) (w : World) (hr : KT.C w A l.length l) (hc : l.length ≤ c) (hb : bnd l = true) (hsz : s.size ≤ 1048576) :
    Calls Try.prog 52 #[.agg #[.int .i64 d, .int .i64 n, .slice A l.length c], .string s] w (RetF w (coefR d n l s)) := by
  have HR := Aside0.mk hr
  have HB := Aside0.mk hb
  have hll := (bnd_iff.1 hb).1
  have HS := Aside0.mk (Sep.refl w)
  clear hr hb
  unfold coefR
  cases h : isS d n l with
  | false =>
    go_enter Try.func52, Try.ntmps52
    go_wp2_with (first | ((with_reducible refine gate_dst (N := 2) rfl ?_); refine wpList_stp (fun K hK => ?_); refine stp_box (by rfl) HS (cs := #[.int .i64 d, .int .i64 n, .slice A l.length c]) (t := 32) (by first | (go_simp; done) | (go_simp; rfl)) ?_; clear HS; intro g_x w1 hg_x HS; refine hK _ _ ?_; clear hK K) | ((with_reducible refine gate_dst (N := 4) rfl ?_); refine wpList_stp (fun K hK => ?_); refine stp_box (by rfl) HS (cs := #[(.int .i64 0), (.int .i64 0)]) (t := 24) (by first | (go_simp; done) | (go_simp; rfl)) ?_; clear HS; intro g_r w1 hg_r HS; refine hK _ _ ?_; clear hK K; have f1_ := HS.out.c 1 0 (v := .int .i64 d) rfl rfl; have f2_ := HS.out.c 1 1 (v := .int .i64 n) rfl rfl; have f3_ := HS.out.c 1 2 (v := .slice A l.length c) rfl rfl) | (go_at_call 42; refine (implIs d n A c l _ (HS.out.oldC HR.out) hc HB.out).mono ?_; rintro e_ w1 ⟨rfl, hb⟩; have n_ := Aside0.mk (HS.out.call hb); clear HS f1_ f2_ f3_ hb; have HS := n_; clear n_) | ((with_reducible refine gate_store (t := 24) (p := 4) rfl ?_); refine wpList_stp (fun K hK => ?_); refine stp_set (by rfl) rfl rfl HS 0 0 (cs' := #[(.int .i64 0), (.int .i64 0)]) rfl rfl rfl (by kernel_rfl) rfl rfl ?_; clear HS; intro w1 HS; simp only [List.set_cons_zero, List.set_cons_succ] at HS; refine hK _ _ ?_; clear hK K))
    refine bodyPost_ret (results_cell_tmp_row rfl _ _ g_r 24 #[(.int .i64 0), (.int .i64 0)] (0, 0) _ rfl (HS.out.at (i := 0) rfl) Try.underlying24 rfl (by kernel_rfl)) rfl ?_
    exact ⟨rfl, HS.out.below⟩
  | true =>
    have HX := Aside0.mk (isS_t h)
    have hlev := isS_l h
    obtain ⟨d, n, rfl, rfl, hd1, hd3, hn1, hn5⟩ := lev_nat hlev
    have HL := Aside0.mk hlev
    clear hlev
    rw [Int.toNat_natCast, Int.toNat_natCast] at HX
    cases hw : isWd d s && decide (s.size ≤ n) with
    | false =>
      have hnn : ¬ ((s.size : Int) ≤ n ∧ isWd (d : Int).toNat s = true) := fun h => by
        have h2 := h.2
        rw [Int.toNat_natCast] at h2
        have h1 : s.size ≤ n := by omega
        simp [h2, h1] at hw
      rw [if_pos rfl, if_neg hnn]
      clear hnn
      go_enter Try.func52, Try.ntmps52
      go_wp2_with (first | ((with_reducible refine gate_dst (N := 2) rfl ?_); refine wpList_stp (fun K hK => ?_); refine stp_box (by rfl) HS (cs := #[.int .i64 (d : Int), .int .i64 (n : Int), .slice A l.length c]) (t := 32) (by first | (go_simp; done) | (go_simp; rfl)) ?_; clear HS; intro g_x w1 hg_x HS; refine hK _ _ ?_; clear hK K) | ((with_reducible refine gate_dst (N := 4) rfl ?_); refine wpList_stp (fun K hK => ?_); refine stp_box (by rfl) HS (cs := #[(.int .i64 0), (.int .i64 0)]) (t := 24) (by first | (go_simp; done) | (go_simp; rfl)) ?_; clear HS; intro g_r w1 hg_r HS; refine hK _ _ ?_; clear hK K; have f1_ := HS.out.c 1 0 (v := .int .i64 (d : Int)) rfl rfl; have f2_ := HS.out.c 1 1 (v := .int .i64 (n : Int)) rfl rfl; have f3_ := HS.out.c 1 2 (v := .slice A l.length c) rfl rfl) | (go_at_call 42; refine (implIs d n A c l _ (HS.out.oldC HR.out) hc HB.out).mono ?_; rintro e_ w1 ⟨rfl, hb⟩; have n_ := Aside0.mk (HS.out.call hb); clear HS f1_ f2_ f3_ hb; have HS := n_; clear n_; have f1_ := HS.out.c 1 0 (v := .int .i64 (d : Int)) rfl rfl; have f2_ := HS.out.c 1 1 (v := .int .i64 (n : Int)) rfl rfl) | (go_at_call 125; refine (implWord d n (by omega) s (by omega) _).mono ?_; rintro e_ w1 ⟨rfl, hb⟩; have n_ := Aside0.mk (HS.out.call hb); clear HS f1_ f2_ hb; have HS := n_; clear n_) | ((with_reducible refine gate_store (t := 24) (p := 4) rfl ?_); refine wpList_stp (fun K hK => ?_); refine stp_set (by rfl) rfl rfl HS 0 0 (cs' := #[(.int .i64 0), (.int .i64 0)]) rfl rfl rfl (by kernel_rfl) rfl rfl ?_; clear HS; intro w1 HS; simp only [List.set_cons_zero, List.set_cons_succ] at HS; refine hK _ _ ?_; clear hK K))
      refine bodyPost_ret (results_cell_tmp_row rfl _ _ g_r 24 #[(.int .i64 0), (.int .i64 0)] (0, 0) _ rfl (HS.out.at (i := 0) rfl) Try.underlying24 rfl (by kernel_rfl)) rfl ?_
      exact ⟨rfl, HS.out.below⟩
    | true =>
      have hw2 := hw
      rw [Bool.and_eq_true, decide_eq_true_eq] at hw2
      have HW := Aside0.mk hw2
      have hnn : (s.size : Int) ≤ n ∧ isWd (d : Int).toNat s = true := ⟨by omega, by rw [Int.toNat_natCast]; exact hw2.1⟩
      rw [if_pos rfl, if_pos hnn]
      clear hnn hw2
      go_enter Try.func52, Try.ntmps52
      go_wp2_with (first | ((with_reducible refine gate_dst (N := 2) rfl ?_); refine wpList_stp (fun K hK => ?_); refine stp_box (by rfl) HS (cs := #[.int .i64 (d : Int), .int .i64 (n : Int), .slice A l.length c]) (t := 32) (by first | (go_simp; done) | (go_simp; rfl)) ?_; clear HS; intro g_x w1 hg_x HS; refine hK _ _ ?_; clear hK K) | ((with_reducible refine gate_dst (N := 4) rfl ?_); refine wpList_stp (fun K hK => ?_); refine stp_box (by rfl) HS (cs := #[(.int .i64 0), (.int .i64 0)]) (t := 24) (by first | (go_simp; done) | (go_simp; rfl)) ?_; clear HS; intro g_r w1 hg_r HS; refine hK _ _ ?_; clear hK K; have f1_ := HS.out.c 1 0 (v := .int .i64 (d : Int)) rfl rfl; have f2_ := HS.out.c 1 1 (v := .int .i64 (n : Int)) rfl rfl; have f3_ := HS.out.c 1 2 (v := .slice A l.length c) rfl rfl) | (go_at_call 42; refine (implIs d n A c l _ (HS.out.oldC HR.out) hc HB.out).mono ?_; rintro e_ w1 ⟨rfl, hb⟩; have n_ := Aside0.mk (HS.out.call hb); clear HS f1_ f2_ f3_ hb; have HS := n_; clear n_; have f1_ := HS.out.c 1 0 (v := .int .i64 (d : Int)) rfl rfl; have f2_ := HS.out.c 1 1 (v := .int .i64 (n : Int)) rfl rfl) | (go_at_call 125; refine (implWord d n (by omega) s (by omega) _).mono ?_; rintro e_ w1 ⟨rfl, hb⟩; have n_ := Aside0.mk (HS.out.call hb); clear HS f1_ f2_ hb; have HS := n_; clear n_; have f1_ := HS.out.c 1 0 (v := .int .i64 (d : Int)) rfl rfl; have f2_ := HS.out.c 1 1 (v := .int .i64 (n : Int)) rfl rfl; have f3_ := HS.out.c 1 2 (v := .slice A l.length c) rfl rfl) | (go_at_call 126; refine (implOpen d n A c l _ HL.out (HS.out.oldC HR.out) HX.out).mono ?_; rintro e_ w1 ⟨g, v, rfl, hs⟩; have n_ := Aside0.mk (HS.out.new hs); clear HS f1_ f2_ f3_ hs; have HS := n_; clear n_; simp only [List.cons_append, List.nil_append] at HS) | (go_at_call 127; refine (implAt g v d n false (co l) s _ HL.out (HS.out.at (i := 0) rfl) (HS.out.at (i := 1) rfl) HW.out.1 HW.out.2).mono ?_; rintro e_ w1 ⟨rfl, hb⟩; have n_ := Aside0.mk (HS.out.call hb); clear HS hb; have HS := n_; clear n_) | ((with_reducible refine gate_store (t := 24) (p := 4) rfl ?_); refine wpList_stp (fun K hK => ?_); refine stp_set (by rfl) rfl rfl HS 2 0 (cs' := #[.int .i64 (co l s).1, .int .i64 (co l s).2]) rfl rfl rfl (by kernel_rfl) rfl rfl ?_; clear HS; intro w1 HS; simp only [List.set_cons_zero, List.set_cons_succ] at HS; refine hK _ _ ?_; clear hK K))
      refine bodyPost_ret (results_cell_tmp_row rfl _ _ g_r 24 #[.int .i64 (co l s).1, .int .i64 (co l s).2] (0, 0) _ rfl (HS.out.at (i := 2) rfl) Try.underlying24 rfl (by kernel_rfl)) rfl ?_
      exact ⟨rfl, HS.out.below⟩
end Go.Proofs.Ytcklblagklojhaa.H

