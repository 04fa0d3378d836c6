/- Tables: new ones, their values, additions, their series. Conditions: the bounds that stand in each statement. -/
import Derived.Test.YtcklblagklojhaaKRepeat
import Derived.Test.YtcklblagklojhaaKFrac3
import Derived.Test.YtcklblagklojhaaKRow
namespace Go.Proofs.Ytcklblagklojhaa.M
def tabL (d n : Nat) (f : ByteArray → Fr) : List Fr := (allW d n).map f
theorem tabL_length (d n : Nat) (f : ByteArray → Fr) : (tabL d n f).length = (allW d n).length := by simp [tabL]
theorem tabL_at {d n : Nat} {f : ByteArray → Fr} {s : ByteArray} (hw : isWd d s = true) (hn : s.size ≤ n) : (tabL d n f)[num d s]? = some (f s) := by
  rw [tabL, List.getElem?_map, allW_get hw hn]; rfl
theorem allW_inj {d n : Nat} (hd : d ≤ 9) {i j : Nat} {s : ByteArray} (hi : (allW d n)[i]? = some s) (hj : (allW d n)[j]? = some s) : i = j := by
  have h := allW_srt hd n
  rw [List.pairwise_iff_getElem] at h
  obtain ⟨hi1, hi2⟩ := List.getElem?_eq_some_iff.1 hi
  obtain ⟨hj1, hj2⟩ := List.getElem?_eq_some_iff.1 hj
  rcases Nat.lt_trichotomy i j with h1 | h1 | h1
  · have := h i j hi1 hj1 h1; rw [hi2, hj2, bef_irrefl] at this; cases this
  · exact h1
  · have := h j i hj1 hi1 h1; rw [hi2, hj2, bef_irrefl] at this; cases this
theorem tabL_set {d n : Nat} (hd : d ≤ 9) {f : ByteArray → Fr} {s : ByteArray} (hw : isWd d s = true) (hn : s.size ≤ n) (a : Fr) : (tabL d n f).set (num d s) a = tabL d n (upd f s a) := by
  apply List.ext_getElem?
  intro i
  rw [List.getElem?_set]
  have hlt : num d s < (tabL d n f).length := by rw [tabL_length]; exact num_lt' hw hn
  by_cases h : num d s = i
  · subst h
    rw [if_pos rfl, if_pos hlt, tabL, List.getElem?_map, allW_get hw hn]
    simp [upd]
  · rw [if_neg h, tabL, tabL, List.getElem?_map, List.getElem?_map]
    cases hh : (allW d n)[i]? with
    | none => rfl
    | some v =>
      have : v ≠ s := fun e => h (allW_inj hd (allW_get hw hn) (by rw [hh, e]))
      simp [upd, this]
theorem tabL_zero (d n : Nat) : List.replicate (allW d n).length ((0, 1) : Fr) = tabL d n (fun _ => (0, 1)) := by
  unfold tabL
  rw [List.map_const']
end Go.Proofs.Ytcklblagklojhaa.M
namespace Go.Proofs.Ytcklblagklojhaa.H
open Go.RowKit Go.Proofs.YtcklblagklojhaaW.PrintWords Go.Proofs.YtcklblagklojhaaW.PrintLast Go.Proofs.YtcklblagklojhaaW.PrintMore Go.Proofs.Ytcklblagklojhaa.M
attribute [local go_sem] max2_int min2_int max_two min_two max_three min_three max_four min_four
set_option linter.unusedVariables false
set_option linter.unusedSimpArgs false
set_option maxRecDepth 100000
theorem lev_size {d n : Nat} (h : lev d n = true) : (allW d n).length ∈ sizes := by
  obtain ⟨d', n', e1, e2, h1, h2, h3, h4⟩ := lev_nat' h
  have h5 := (lev_iff.1 h).2.2
  have hd : d = 1 ∨ d = 2 ∨ d = 3 := by omega
  have hn : n = 1 ∨ n = 2 ∨ n = 3 ∨ n = 4 ∨ n = 5 := by omega
  rw [allW_length]
  rcases hd with rfl | rfl | rfl <;> rcases hn with rfl | rfl | rfl | rfl | rfl <;> first | decide | (exfalso; omega)
theorem implZero (w : World) : Calls Try.prog 152 #[] w fun e w' => e = .returned (.agg #[.int .i64 0, .int .i64 1]) ∧ Below w.heap.size w w' := by
  have HS := Aside0.mk (Sep.refl w)
  go_enter Try.func152, Try.ntmps152
  go_wp2_with (first | ((with_reducible refine gate_dst (N := 0) rfl ?_); refine wpList_stp (fun K hK => ?_); refine stp_box (by rfl) HS (cs := #[(.int .i64 0), (.int .i64 0)]) (t := 24) (by first | (go_simp; done) | (go_simp; rfl)) ?_; clear HS; intro g_r w1 hg_r HS; refine hK _ _ ?_; clear hK K) | ((with_reducible refine gate_store (t := 24) (p := 0) rfl ?_); refine wpList_stp (fun K hK => ?_); refine stp_set (by rfl) rfl rfl HS 0 0 (cs' := #[(.int .i64 0), (.int .i64 1)]) rfl rfl rfl (by kernel_rfl) rfl rfl ?_; clear HS; intro w1 HS; simp only [List.set_cons_zero, List.set_cons_succ] at HS; refine hK _ _ ?_; clear hK K))
  refine bodyPost_ret (results_cell_row rfl _ _ g_r 24 #[(.int .i64 0), (.int .i64 1)] (0, 0) _ rfl (HS.out.at (i := 0) rfl) Try.underlying24 rfl (by kernel_rfl)) rfl ?_
  exact ⟨rfl, HS.out.below⟩
theorem implWhole (k : Int) (w : World) : Calls Try.prog 104 #[.int .i64 k] w fun e w' => e = .returned (.agg #[.int .i64 k, .int .i64 1]) ∧ Below w.heap.size w w' := by
  have HS := Aside0.mk (Sep.refl w)
  go_enter Try.func104, Try.ntmps104
  go_wp2_with (first | ((with_reducible refine gate_dst (N := 2) rfl ?_); refine wpList_stp (fun K hK => ?_); refine stp_box (by rfl) HS (cs := #[(.int .i64 0), (.int .i64 0)]) (t := 24) (by first | (go_simp; done) | (go_simp; rfl)) ?_; clear HS; intro g_r w1 hg_r HS; refine hK _ _ ?_; clear hK K) | ((with_reducible refine gate_store (t := 24) (p := 2) rfl ?_); refine wpList_stp (fun K hK => ?_); refine stp_set (by rfl) rfl rfl HS 0 0 (cs' := #[(.int .i64 k), (.int .i64 1)]) rfl rfl rfl (by kernel_rfl) rfl rfl ?_; clear HS; intro w1 HS; simp only [List.set_cons_zero, List.set_cons_succ] at HS; refine hK _ _ ?_; clear hK K))
  refine bodyPost_ret (results_cell_row rfl _ _ g_r 24 #[(.int .i64 k), (.int .i64 1)] (0, 0) _ rfl (HS.out.at (i := 0) rfl) Try.underlying24 rfl (by kernel_rfl)) rfl ?_
  exact ⟨rfl, HS.out.below⟩
/-- A table's struct, and its values. -/
abbrev tS (g v d n N : Nat) (bad : Bool) : As := bx g 106 #[.int .i64 (d : Int), .int .i64 (n : Int), .slice (some ⟨v, 0, none⟩) N N, .bool bad]
abbrev tV (v d n : Nat) (f : ByteArray → Fr) : As := tv v (tabL d n f)
/-- The number of words. -/
abbrev nW (d n : Nat) : Nat := (allW d n).length
set_option maxHeartbeats 4000000 in
theorem implNew (d n : Nat) (hl : lev d n = true) (w : World) : Calls Try.prog 114 #[.int .i64 (d : Int), .int .i64 (n : Int)] w fun e w' =>
    ∃ g v, e = .returned (.pointer (some ⟨g, 0, none⟩)) ∧ Sep w w' [tS g v d n (nW d n) false, tV v d n (fun _ => (0, 1))] := by
  have hsz := lev_size hl
  have HZ := Aside0.mk (tabL_zero d n)
  obtain ⟨_, _, e1, e2, h1, h3, h4, h5⟩ := lev_nat' hl
  clear hl e1 e2
  have HS := Aside0.mk (Sep.refl w)
  go_enter Try.func114, Try.ntmps114
  go_wp2_with (first | (go_at_call 152; refine (implZero _).mono ?_; rintro e_ w1 ⟨rfl, hb⟩; have n_ := Aside0.mk (HS.out.call hb); clear HS hb; have HS := n_; clear n_) | ((with_reducible refine gate_dst (N := 8) rfl ?_); refine wpList_stp (fun K hK => ?_); refine stp_lit (KF) rfl 24 (by rfl) HS (xs := [((0, 1) : Fr)]) (inner := [.int .i64 0, .int .i64 1]) (by first | (go_simp; done) | (go_simp; rfl)) (fun W base ok => Reps.snoc (Reps.none _ _) (KF_M (0, 1) W base ok) rfl) (by simp) ?_; clear HS; intro A_z c_z w1 HS; refine hK _ _ ?_; clear hK K) | (go_at_call 183; refine (implAllWords d n _ h3 h5).mono ?_; rintro e_ w1 ⟨B, b, rfl, hs⟩; have n_ := Aside0.mk (HS.out.new hs); clear HS hs; have HS := n_; clear n_; simp only [List.cons_append, List.nil_append] at HS) | (go_at_call 182; refine (slicesRepeat A_z c_z (0, 1) (nW d n) _ (HS.out.reads 1 rfl) hsz).mono ?_; rintro e_ w1 ⟨g_v, rfl, hs⟩; have n_ := Aside0.mk (HS.out.new hs); clear HS hs; have HS := n_; clear n_; simp only [List.cons_append, List.nil_append] at HS; rw [HZ.out] at HS) | ((with_reducible refine gate_dst (N := 15) rfl ?_); refine wpList_stp (fun K hK => ?_); refine stp_box (by rfl) HS (cs := #[(.int .i64 (d : Int)), (.int .i64 (n : Int)), (.slice (some ⟨g_v, 0, none⟩) (nW d n) (nW d n)), (.bool false)]) (t := 106) (by first | (go_simp; done) | (go_simp; rfl)) ?_; clear HS; intro g_t w1 hg_t HS; refine hK _ _ ?_; clear hK K))
  have n_ := Aside0.mk (HS.out.sel [0, 1] (by decide)); clear HS; have HS := n_; clear n_; simp only [List.filterMap_cons, List.filterMap_nil, List.getElem?_cons_zero, List.getElem?_cons_succ] at HS
  go_ret
  exact ⟨g_t, g_v, rfl, HS.out⟩
end Go.Proofs.Ytcklblagklojhaa.H

