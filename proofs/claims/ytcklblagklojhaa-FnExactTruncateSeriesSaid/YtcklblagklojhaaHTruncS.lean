/- What the reference's TruncateSeries returns: proved by walking its code. Conditions: the argument's row is read. -/
import Derived.Test.YtcklblagklojhaaHTruncI
import Derived.Test.YtcklblagklojhaaHEmpty
import Derived.Test.YtcklblagklojhaaWTab
import Derived.WalkSpells
namespace Go.Proofs.Ytcklblagklojhaa.H
open Go.RowKit Go.Proofs.YtcklblagklojhaaW.PrintWords Go.Proofs.YtcklblagklojhaaW.PrintLast Go.Proofs.YtcklblagklojhaaW.PrintMore Go.Proofs.Ytcklblagklojhaa.M
attribute [local go_sem] max2_int min2_int max_two min_two max_three min_three max_four min_four
set_option linter.unusedVariables false
set_option linter.unusedSimpArgs false
set_option maxHeartbeats 8000000 in
set_option maxRecDepth 100000 in
theorem specTruncate (d n lim : Int) (A : Option Addr) (c : Nat) (l : Ts) (w : World) (hr : KT.C w A l.length l) (hc : l.length ≤ c) (hb : bnd l = true) :
    Calls Try.prog 45 #[.agg #[.int .i64 d, .int .i64 n, .slice A l.length c], .int .i64 lim] w fun e w' =>
      ∃ v, e = .returned (.tuple #[.agg #[.int .i64 (truncS d n l lim).1, .int .i64 (truncS d n l lim).2.1, v], .int .i64 (truncS d n l lim).2.2.2]) ∧ KT.R 77 w' w.heap.size (fun _ => True) v (truncS d n l lim).2.2.1 ∧ Below w.heap.size w w' := by
  have HR := Aside0.mk hr
  have HB := Aside0.mk (Below.refl w.heap.size w)
  have HBN := Aside0.mk hb
  have hlen := (bnd_iff.1 hb).1
  have HZ := Aside0.mk (bnd_iff.1 hb).2
  clear hr hb
  cases hs : isS d n l with
  | false =>
    rw [show truncS d n l lim = (0, 0, [], 1) by unfold truncS; rw [hs]; rfl]
    go_enter Try.func45, Try.ntmps45
    go_wp2_with (first | ((with_reducible refine gate_dst (N := 2) rfl ?_); refine box_event ?hg (N := 2) ?hd (cs := #[.int .i64 d, .int .i64 n, .slice A l.length c]) (t := 32) ?hr ?_; (case hd => rfl); (case hg => rfl); (case hr => first | (go_simp; done) | (go_simp; rfl)); intro g_x hg w1 hbox hb; have GE_x : w.heap.size ≤ g_x := (by rw [hg]; exact below_size HB.out); have n0_ := Aside0.mk (below_step HB.out hb); have n1_ := Aside0.mk (hbox); clear HB; have HB := n0_; have BKx := n1_; clear n0_ n1_; clear hb hbox hg; have c_x_0 : w1.cell? ⟨g_x, 0, none⟩ = some (.int .i64 d) := (blk_cell BKx.out 0).trans rfl; have c_x_1 : w1.cell? ⟨g_x, 1, none⟩ = some (.int .i64 n) := (blk_cell BKx.out 1).trans rfl; have c_x_2 : w1.cell? ⟨g_x, 2, none⟩ = some (.slice A l.length c) := (blk_cell BKx.out 2).trans rfl) | ((with_reducible refine gate_dst (N := 4) rfl ?_); refine box_event ?hg (N := 4) ?hd (cs := #[.int .i64 0, .int .i64 0, .slice none 0 0]) (t := 32) ?hr ?_; (case hd => rfl); (case hg => rfl); (case hr => first | (go_simp; done) | (go_simp; rfl)); intro g_r hg w3 hbox hb; clear c_x_0 c_x_1 c_x_2; have GE_r : w.heap.size ≤ g_r := (by rw [hg]; exact below_size HB.out); have NE_x_r : g_x ≠ g_r := (by rw [hg]; exact Nat.ne_of_lt (blk_lt BKx.out)); have NE_r_x : g_r ≠ g_x := Ne.symm NE_x_r; have n0_ := Aside0.mk (blk_below BKx.out hb); have n1_ := Aside0.mk (below_step HB.out hb); have n2_ := Aside0.mk (hbox); clear BKx HB; have BKx := n0_; have HB := n1_; have BKr := n2_; clear n0_ n1_ n2_; clear hb hbox hg; have c_x_0 : w3.cell? ⟨g_x, 0, none⟩ = some (.int .i64 d) := (blk_cell BKx.out 0).trans rfl; have c_x_1 : w3.cell? ⟨g_x, 1, none⟩ = some (.int .i64 n) := (blk_cell BKx.out 1).trans rfl; have c_x_2 : w3.cell? ⟨g_x, 2, none⟩ = some (.slice A l.length c) := (blk_cell BKx.out 2).trans rfl; have c_r_0 : w3.cell? ⟨g_r, 0, none⟩ = some (.int .i64 0) := (blk_cell BKr.out 0).trans rfl; have f_r_0 : w3.frozen? ⟨g_r, 0, none⟩ = false := blk_frozen BKr.out 0; have c_r_1 : w3.cell? ⟨g_r, 1, none⟩ = some (.int .i64 0) := (blk_cell BKr.out 1).trans rfl; have f_r_1 : w3.frozen? ⟨g_r, 1, none⟩ = false := blk_frozen BKr.out 1; have c_r_2 : w3.cell? ⟨g_r, 2, none⟩ = some (.slice none 0 0) := (blk_cell BKr.out 2).trans rfl; have f_r_2 : w3.frozen? ⟨g_r, 2, none⟩ = false := blk_frozen BKr.out 2) | (go_at_call 109; refine (specIs d n A c l _ (Kd.C_below HR.out HB.out) hc HBN.out).mono ?_; rintro e w4 ⟨rfl, hb⟩; clear c_x_0 c_x_1 c_x_2 c_r_0 c_r_1 c_r_2 f_r_0 f_r_1 f_r_2; have n0_ := Aside0.mk (blk_below BKx.out hb); have n1_ := Aside0.mk (blk_below BKr.out hb); have n2_ := Aside0.mk (below_step HB.out hb); clear BKx BKr HB; have BKx := n0_; have BKr := n1_; have HB := n2_; clear n0_ n1_ n2_; clear hb; have c_x_0 : w4.cell? ⟨g_x, 0, none⟩ = some (.int .i64 d) := (blk_cell BKx.out 0).trans rfl; have c_x_1 : w4.cell? ⟨g_x, 1, none⟩ = some (.int .i64 n) := (blk_cell BKx.out 1).trans rfl; have c_x_2 : w4.cell? ⟨g_x, 2, none⟩ = some (.slice A l.length c) := (blk_cell BKx.out 2).trans rfl; have c_r_0 : w4.cell? ⟨g_r, 0, none⟩ = some (.int .i64 0) := (blk_cell BKr.out 0).trans rfl; have f_r_0 : w4.frozen? ⟨g_r, 0, none⟩ = false := blk_frozen BKr.out 0; have c_r_1 : w4.cell? ⟨g_r, 1, none⟩ = some (.int .i64 0) := (blk_cell BKr.out 1).trans rfl; have f_r_1 : w4.frozen? ⟨g_r, 1, none⟩ = false := blk_frozen BKr.out 1; have c_r_2 : w4.cell? ⟨g_r, 2, none⟩ = some (.slice none 0 0) := (blk_cell BKr.out 2).trans rfl; have f_r_2 : w4.frozen? ⟨g_r, 2, none⟩ = false := blk_frozen BKr.out 2) | ((with_reducible refine gate_store (t := 32) (p := 4) rfl ?_); refine store_event (t := 32) (p := 4) (v := ?vo_w5) (w1 := (((w4.setCell ⟨g_r, 0, none⟩ (.int .i64 0)).setCell ⟨g_r, 1, none⟩ (.int .i64 0)).setCell ⟨g_r, 2, none⟩ (.slice none 0 0))) ?hg ?ho ?hn ?hr ?_; (case ho => rfl); (case hg => rfl); (case hn => rfl); (case hr => first | (go_simp; done) | (go_simp; rfl)); intro w5 hw; clear c_x_0 c_x_1 c_x_2 c_r_0 c_r_1 c_r_2 f_r_0 f_r_1 f_r_2; have n0_ := Aside0.mk ((show w5.heap[g_x]? = some (.cells #[.int .i64 d, .int .i64 n, .slice A l.length c] 32 (0, 0)) from (by rw [hw]; exact (blk_far (blk_far (blk_far BKx.out NE_x_r _) NE_x_r _) NE_x_r _)))); have n1_ := Aside0.mk ((show w5.heap[g_r]? = some (.cells #[.int .i64 0, .int .i64 0, .slice none 0 0] 32 (0, 0)) from (by rw [hw]; exact (blk_put (cs' := #[.int .i64 0, .int .i64 0, .slice none 0 0]) (blk_put (cs' := #[.int .i64 0, .int .i64 0, .slice none 0 0]) (blk_put (cs' := #[.int .i64 0, .int .i64 0, .slice none 0 0]) BKr.out 0 _ rfl) 1 _ rfl) 2 _ rfl)))); have n2_ := Aside0.mk ((by rw [hw]; exact (below_set (below_set (below_set HB.out GE_r) GE_r) GE_r) : Below w.heap.size w w5)); clear BKx BKr HB; have BKx := n0_; have BKr := n1_; have HB := n2_; clear n0_ n1_ n2_; clear hw; have c_x_0 : w5.cell? ⟨g_x, 0, none⟩ = some (.int .i64 d) := (blk_cell BKx.out 0).trans rfl; have c_x_1 : w5.cell? ⟨g_x, 1, none⟩ = some (.int .i64 n) := (blk_cell BKx.out 1).trans rfl; have c_x_2 : w5.cell? ⟨g_x, 2, none⟩ = some (.slice A l.length c) := (blk_cell BKx.out 2).trans rfl; have c_r_0 : w5.cell? ⟨g_r, 0, none⟩ = some (.int .i64 0) := (blk_cell BKr.out 0).trans rfl; have f_r_0 : w5.frozen? ⟨g_r, 0, none⟩ = false := blk_frozen BKr.out 0; have c_r_1 : w5.cell? ⟨g_r, 1, none⟩ = some (.int .i64 0) := (blk_cell BKr.out 1).trans rfl; have f_r_1 : w5.frozen? ⟨g_r, 1, none⟩ = false := blk_frozen BKr.out 1; have c_r_2 : w5.cell? ⟨g_r, 2, none⟩ = some (.slice none 0 0) := (blk_cell BKr.out 2).trans rfl; have f_r_2 : w5.frozen? ⟨g_r, 2, none⟩ = false := blk_frozen BKr.out 2))
    refine bodyPost_ret (results_ct rfl _ _ g_r 32 #[.int .i64 0, .int .i64 0, .slice none 0 0] (0, 0) _ rfl BKr.out Try.underlying32 rfl (by kernel_rfl)) rfl ?_
    exact ⟨_, rfl, Kd.R_nil _ _ _ _ _, HB.out⟩
  | true =>
    cases hi : inR lim 1 n with
    | false =>
      rw [show truncS d n l lim = (0, 0, [], 2) by unfold truncS; rw [hs, hi]; rfl]
      go_enter Try.func45, Try.ntmps45
      go_wp2_with (first | ((with_reducible refine gate_dst (N := 2) rfl ?_); refine box_event ?hg (N := 2) ?hd (cs := #[.int .i64 d, .int .i64 n, .slice A l.length c]) (t := 32) ?hr ?_; (case hd => rfl); (case hg => rfl); (case hr => first | (go_simp; done) | (go_simp; rfl)); intro g_x hg w1 hbox hb; have GE_x : w.heap.size ≤ g_x := (by rw [hg]; exact below_size HB.out); have n0_ := Aside0.mk (below_step HB.out hb); have n1_ := Aside0.mk (hbox); clear HB; have HB := n0_; have BKx := n1_; clear n0_ n1_; clear hb hbox hg; have c_x_0 : w1.cell? ⟨g_x, 0, none⟩ = some (.int .i64 d) := (blk_cell BKx.out 0).trans rfl; have c_x_1 : w1.cell? ⟨g_x, 1, none⟩ = some (.int .i64 n) := (blk_cell BKx.out 1).trans rfl; have c_x_2 : w1.cell? ⟨g_x, 2, none⟩ = some (.slice A l.length c) := (blk_cell BKx.out 2).trans rfl) | ((with_reducible refine gate_dst (N := 4) rfl ?_); refine box_event ?hg (N := 4) ?hd (cs := #[.int .i64 0, .int .i64 0, .slice none 0 0]) (t := 32) ?hr ?_; (case hd => rfl); (case hg => rfl); (case hr => first | (go_simp; done) | (go_simp; rfl)); intro g_r hg w3 hbox hb; clear c_x_0 c_x_1 c_x_2; have GE_r : w.heap.size ≤ g_r := (by rw [hg]; exact below_size HB.out); have NE_x_r : g_x ≠ g_r := (by rw [hg]; exact Nat.ne_of_lt (blk_lt BKx.out)); have NE_r_x : g_r ≠ g_x := Ne.symm NE_x_r; have n0_ := Aside0.mk (blk_below BKx.out hb); have n1_ := Aside0.mk (below_step HB.out hb); have n2_ := Aside0.mk (hbox); clear BKx HB; have BKx := n0_; have HB := n1_; have BKr := n2_; clear n0_ n1_ n2_; clear hb hbox hg; have c_x_0 : w3.cell? ⟨g_x, 0, none⟩ = some (.int .i64 d) := (blk_cell BKx.out 0).trans rfl; have c_x_1 : w3.cell? ⟨g_x, 1, none⟩ = some (.int .i64 n) := (blk_cell BKx.out 1).trans rfl; have c_x_2 : w3.cell? ⟨g_x, 2, none⟩ = some (.slice A l.length c) := (blk_cell BKx.out 2).trans rfl; have c_r_0 : w3.cell? ⟨g_r, 0, none⟩ = some (.int .i64 0) := (blk_cell BKr.out 0).trans rfl; have f_r_0 : w3.frozen? ⟨g_r, 0, none⟩ = false := blk_frozen BKr.out 0; have c_r_1 : w3.cell? ⟨g_r, 1, none⟩ = some (.int .i64 0) := (blk_cell BKr.out 1).trans rfl; have f_r_1 : w3.frozen? ⟨g_r, 1, none⟩ = false := blk_frozen BKr.out 1; have c_r_2 : w3.cell? ⟨g_r, 2, none⟩ = some (.slice none 0 0) := (blk_cell BKr.out 2).trans rfl; have f_r_2 : w3.frozen? ⟨g_r, 2, none⟩ = false := blk_frozen BKr.out 2) | (go_at_call 109; refine (specIs d n A c l _ (Kd.C_below HR.out HB.out) hc HBN.out).mono ?_; rintro e w4 ⟨rfl, hb⟩; clear c_x_0 c_x_1 c_x_2 c_r_0 c_r_1 c_r_2 f_r_0 f_r_1 f_r_2; have n0_ := Aside0.mk (blk_below BKx.out hb); have n1_ := Aside0.mk (blk_below BKr.out hb); have n2_ := Aside0.mk (below_step HB.out hb); clear BKx BKr HB; have BKx := n0_; have BKr := n1_; have HB := n2_; clear n0_ n1_ n2_; clear hb; have c_x_0 : w4.cell? ⟨g_x, 0, none⟩ = some (.int .i64 d) := (blk_cell BKx.out 0).trans rfl; have c_x_1 : w4.cell? ⟨g_x, 1, none⟩ = some (.int .i64 n) := (blk_cell BKx.out 1).trans rfl; have c_x_2 : w4.cell? ⟨g_x, 2, none⟩ = some (.slice A l.length c) := (blk_cell BKx.out 2).trans rfl; have c_r_0 : w4.cell? ⟨g_r, 0, none⟩ = some (.int .i64 0) := (blk_cell BKr.out 0).trans rfl; have f_r_0 : w4.frozen? ⟨g_r, 0, none⟩ = false := blk_frozen BKr.out 0; have c_r_1 : w4.cell? ⟨g_r, 1, none⟩ = some (.int .i64 0) := (blk_cell BKr.out 1).trans rfl; have f_r_1 : w4.frozen? ⟨g_r, 1, none⟩ = false := blk_frozen BKr.out 1; have c_r_2 : w4.cell? ⟨g_r, 2, none⟩ = some (.slice none 0 0) := (blk_cell BKr.out 2).trans rfl; have f_r_2 : w4.frozen? ⟨g_r, 2, none⟩ = false := blk_frozen BKr.out 2) | (go_at_call 99; refine (specInB lim 1 n _).mono ?_; rintro e w5 ⟨rfl, hb⟩; clear c_x_0 c_x_1 c_x_2 c_r_0 c_r_1 c_r_2 f_r_0 f_r_1 f_r_2; have n0_ := Aside0.mk (blk_below BKx.out hb); have n1_ := Aside0.mk (blk_below BKr.out hb); have n2_ := Aside0.mk (below_step HB.out hb); clear BKx BKr HB; have BKx := n0_; have BKr := n1_; have HB := n2_; clear n0_ n1_ n2_; clear hb; have c_x_0 : w5.cell? ⟨g_x, 0, none⟩ = some (.int .i64 d) := (blk_cell BKx.out 0).trans rfl; have c_x_1 : w5.cell? ⟨g_x, 1, none⟩ = some (.int .i64 n) := (blk_cell BKx.out 1).trans rfl; have c_x_2 : w5.cell? ⟨g_x, 2, none⟩ = some (.slice A l.length c) := (blk_cell BKx.out 2).trans rfl; have c_r_0 : w5.cell? ⟨g_r, 0, none⟩ = some (.int .i64 0) := (blk_cell BKr.out 0).trans rfl; have f_r_0 : w5.frozen? ⟨g_r, 0, none⟩ = false := blk_frozen BKr.out 0; have c_r_1 : w5.cell? ⟨g_r, 1, none⟩ = some (.int .i64 0) := (blk_cell BKr.out 1).trans rfl; have f_r_1 : w5.frozen? ⟨g_r, 1, none⟩ = false := blk_frozen BKr.out 1; have c_r_2 : w5.cell? ⟨g_r, 2, none⟩ = some (.slice none 0 0) := (blk_cell BKr.out 2).trans rfl; have f_r_2 : w5.frozen? ⟨g_r, 2, none⟩ = false := blk_frozen BKr.out 2) | ((with_reducible refine gate_store (t := 32) (p := 4) rfl ?_); refine store_event (t := 32) (p := 4) (v := ?vo_w6) (w1 := (((w5.setCell ⟨g_r, 0, none⟩ (.int .i64 0)).setCell ⟨g_r, 1, none⟩ (.int .i64 0)).setCell ⟨g_r, 2, none⟩ (.slice none 0 0))) ?hg ?ho ?hn ?hr ?_; (case ho => rfl); (case hg => rfl); (case hn => rfl); (case hr => first | (go_simp; done) | (go_simp; rfl)); intro w6 hw; clear c_x_0 c_x_1 c_x_2 c_r_0 c_r_1 c_r_2 f_r_0 f_r_1 f_r_2; have n0_ := Aside0.mk ((show w6.heap[g_x]? = some (.cells #[.int .i64 d, .int .i64 n, .slice A l.length c] 32 (0, 0)) from (by rw [hw]; exact (blk_far (blk_far (blk_far BKx.out NE_x_r _) NE_x_r _) NE_x_r _)))); have n1_ := Aside0.mk ((show w6.heap[g_r]? = some (.cells #[.int .i64 0, .int .i64 0, .slice none 0 0] 32 (0, 0)) from (by rw [hw]; exact (blk_put (cs' := #[.int .i64 0, .int .i64 0, .slice none 0 0]) (blk_put (cs' := #[.int .i64 0, .int .i64 0, .slice none 0 0]) (blk_put (cs' := #[.int .i64 0, .int .i64 0, .slice none 0 0]) BKr.out 0 _ rfl) 1 _ rfl) 2 _ rfl)))); have n2_ := Aside0.mk ((by rw [hw]; exact (below_set (below_set (below_set HB.out GE_r) GE_r) GE_r) : Below w.heap.size w w6)); clear BKx BKr HB; have BKx := n0_; have BKr := n1_; have HB := n2_; clear n0_ n1_ n2_; clear hw; have c_x_0 : w6.cell? ⟨g_x, 0, none⟩ = some (.int .i64 d) := (blk_cell BKx.out 0).trans rfl; have c_x_1 : w6.cell? ⟨g_x, 1, none⟩ = some (.int .i64 n) := (blk_cell BKx.out 1).trans rfl; have c_x_2 : w6.cell? ⟨g_x, 2, none⟩ = some (.slice A l.length c) := (blk_cell BKx.out 2).trans rfl; have c_r_0 : w6.cell? ⟨g_r, 0, none⟩ = some (.int .i64 0) := (blk_cell BKr.out 0).trans rfl; have f_r_0 : w6.frozen? ⟨g_r, 0, none⟩ = false := blk_frozen BKr.out 0; have c_r_1 : w6.cell? ⟨g_r, 1, none⟩ = some (.int .i64 0) := (blk_cell BKr.out 1).trans rfl; have f_r_1 : w6.frozen? ⟨g_r, 1, none⟩ = false := blk_frozen BKr.out 1; have c_r_2 : w6.cell? ⟨g_r, 2, none⟩ = some (.slice none 0 0) := (blk_cell BKr.out 2).trans rfl; have f_r_2 : w6.frozen? ⟨g_r, 2, none⟩ = false := blk_frozen BKr.out 2))
      refine bodyPost_ret (results_ct rfl _ _ g_r 32 #[.int .i64 0, .int .i64 0, .slice none 0 0] (0, 0) _ rfl BKr.out Try.underlying32 rfl (by kernel_rfl)) rfl ?_
      exact ⟨_, rfl, Kd.R_nil _ _ _ _ _, HB.out⟩
    | true =>
      rw [show truncS d n l lim = (d, lim, l.filter (fun t => decide ((t.1.size : Int) ≤ lim)), 0) by unfold truncS; rw [hs, hi]; rfl]
      go_enter Try.func45, Try.ntmps45
      go_wp2_with (first | ((with_reducible refine gate_dst (N := 2) rfl ?_); refine box_event ?hg (N := 2) ?hd (cs := #[.int .i64 d, .int .i64 n, .slice A l.length c]) (t := 32) ?hr ?_; (case hd => rfl); (case hg => rfl); (case hr => first | (go_simp; done) | (go_simp; rfl)); intro g_x hg w1 hbox hb; have GE_x : w.heap.size ≤ g_x := (by rw [hg]; exact below_size HB.out); have n0_ := Aside0.mk (below_step HB.out hb); have n1_ := Aside0.mk (hbox); clear HB; have HB := n0_; have BKx := n1_; clear n0_ n1_; clear hb hbox hg; have c_x_0 : w1.cell? ⟨g_x, 0, none⟩ = some (.int .i64 d) := (blk_cell BKx.out 0).trans rfl; have c_x_1 : w1.cell? ⟨g_x, 1, none⟩ = some (.int .i64 n) := (blk_cell BKx.out 1).trans rfl; have c_x_2 : w1.cell? ⟨g_x, 2, none⟩ = some (.slice A l.length c) := (blk_cell BKx.out 2).trans rfl) | ((with_reducible refine gate_dst (N := 4) rfl ?_); refine box_event ?hg (N := 4) ?hd (cs := #[.int .i64 0, .int .i64 0, .slice none 0 0]) (t := 32) ?hr ?_; (case hd => rfl); (case hg => rfl); (case hr => first | (go_simp; done) | (go_simp; rfl)); intro g_r hg w3 hbox hb; clear c_x_0 c_x_1 c_x_2; have GE_r : w.heap.size ≤ g_r := (by rw [hg]; exact below_size HB.out); have NE_x_r : g_x ≠ g_r := (by rw [hg]; exact Nat.ne_of_lt (blk_lt BKx.out)); have NE_r_x : g_r ≠ g_x := Ne.symm NE_x_r; have n0_ := Aside0.mk (blk_below BKx.out hb); have n1_ := Aside0.mk (below_step HB.out hb); have n2_ := Aside0.mk (hbox); clear BKx HB; have BKx := n0_; have HB := n1_; have BKr := n2_; clear n0_ n1_ n2_; clear hb hbox hg; have c_x_0 : w3.cell? ⟨g_x, 0, none⟩ = some (.int .i64 d) := (blk_cell BKx.out 0).trans rfl; have c_x_1 : w3.cell? ⟨g_x, 1, none⟩ = some (.int .i64 n) := (blk_cell BKx.out 1).trans rfl; have c_x_2 : w3.cell? ⟨g_x, 2, none⟩ = some (.slice A l.length c) := (blk_cell BKx.out 2).trans rfl; have c_r_0 : w3.cell? ⟨g_r, 0, none⟩ = some (.int .i64 0) := (blk_cell BKr.out 0).trans rfl; have f_r_0 : w3.frozen? ⟨g_r, 0, none⟩ = false := blk_frozen BKr.out 0; have c_r_1 : w3.cell? ⟨g_r, 1, none⟩ = some (.int .i64 0) := (blk_cell BKr.out 1).trans rfl; have f_r_1 : w3.frozen? ⟨g_r, 1, none⟩ = false := blk_frozen BKr.out 1; have c_r_2 : w3.cell? ⟨g_r, 2, none⟩ = some (.slice none 0 0) := (blk_cell BKr.out 2).trans rfl; have f_r_2 : w3.frozen? ⟨g_r, 2, none⟩ = false := blk_frozen BKr.out 2) | (go_at_call 109; refine (specIs d n A c l _ (Kd.C_below HR.out HB.out) hc HBN.out).mono ?_; rintro e w4 ⟨rfl, hb⟩; clear c_x_0 c_x_1 c_x_2 c_r_0 c_r_1 c_r_2 f_r_0 f_r_1 f_r_2; have n0_ := Aside0.mk (blk_below BKx.out hb); have n1_ := Aside0.mk (blk_below BKr.out hb); have n2_ := Aside0.mk (below_step HB.out hb); clear BKx BKr HB; have BKx := n0_; have BKr := n1_; have HB := n2_; clear n0_ n1_ n2_; clear hb; have c_x_0 : w4.cell? ⟨g_x, 0, none⟩ = some (.int .i64 d) := (blk_cell BKx.out 0).trans rfl; have c_x_1 : w4.cell? ⟨g_x, 1, none⟩ = some (.int .i64 n) := (blk_cell BKx.out 1).trans rfl; have c_x_2 : w4.cell? ⟨g_x, 2, none⟩ = some (.slice A l.length c) := (blk_cell BKx.out 2).trans rfl; have c_r_0 : w4.cell? ⟨g_r, 0, none⟩ = some (.int .i64 0) := (blk_cell BKr.out 0).trans rfl; have f_r_0 : w4.frozen? ⟨g_r, 0, none⟩ = false := blk_frozen BKr.out 0; have c_r_1 : w4.cell? ⟨g_r, 1, none⟩ = some (.int .i64 0) := (blk_cell BKr.out 1).trans rfl; have f_r_1 : w4.frozen? ⟨g_r, 1, none⟩ = false := blk_frozen BKr.out 1; have c_r_2 : w4.cell? ⟨g_r, 2, none⟩ = some (.slice none 0 0) := (blk_cell BKr.out 2).trans rfl; have f_r_2 : w4.frozen? ⟨g_r, 2, none⟩ = false := blk_frozen BKr.out 2) | (go_at_call 99; refine (specInB lim 1 n _).mono ?_; rintro e w5 ⟨rfl, hb⟩; clear c_x_0 c_x_1 c_x_2 c_r_0 c_r_1 c_r_2 f_r_0 f_r_1 f_r_2; have n0_ := Aside0.mk (blk_below BKx.out hb); have n1_ := Aside0.mk (blk_below BKr.out hb); have n2_ := Aside0.mk (below_step HB.out hb); clear BKx BKr HB; have BKx := n0_; have BKr := n1_; have HB := n2_; clear n0_ n1_ n2_; clear hb; have c_x_0 : w5.cell? ⟨g_x, 0, none⟩ = some (.int .i64 d) := (blk_cell BKx.out 0).trans rfl; have c_x_1 : w5.cell? ⟨g_x, 1, none⟩ = some (.int .i64 n) := (blk_cell BKx.out 1).trans rfl; have c_x_2 : w5.cell? ⟨g_x, 2, none⟩ = some (.slice A l.length c) := (blk_cell BKx.out 2).trans rfl; have c_r_0 : w5.cell? ⟨g_r, 0, none⟩ = some (.int .i64 0) := (blk_cell BKr.out 0).trans rfl; have f_r_0 : w5.frozen? ⟨g_r, 0, none⟩ = false := blk_frozen BKr.out 0; have c_r_1 : w5.cell? ⟨g_r, 1, none⟩ = some (.int .i64 0) := (blk_cell BKr.out 1).trans rfl; have f_r_1 : w5.frozen? ⟨g_r, 1, none⟩ = false := blk_frozen BKr.out 1; have c_r_2 : w5.cell? ⟨g_r, 2, none⟩ = some (.slice none 0 0) := (blk_cell BKr.out 2).trans rfl; have f_r_2 : w5.frozen? ⟨g_r, 2, none⟩ = false := blk_frozen BKr.out 2) | (go_at_call 117; refine (specEmpty d n A c l.length _).mono ?_; rintro e w6 ⟨A0, c0, rfl, ho, hb⟩; clear c_x_0 c_x_1 c_x_2 c_r_0 c_r_1 c_r_2 f_r_0 f_r_1 f_r_2; have HOo := Aside0.mk (Kd.R_lower ho (below_size HB.out)); have n0_ := Aside0.mk (blk_below BKx.out hb); have n1_ := Aside0.mk (blk_below BKr.out hb); have n2_ := Aside0.mk (below_step HB.out hb); clear BKx BKr HB; have BKx := n0_; have BKr := n1_; have HB := n2_; clear n0_ n1_ n2_; clear ho; clear hb; have c_x_0 : w6.cell? ⟨g_x, 0, none⟩ = some (.int .i64 d) := (blk_cell BKx.out 0).trans rfl; have c_x_1 : w6.cell? ⟨g_x, 1, none⟩ = some (.int .i64 n) := (blk_cell BKx.out 1).trans rfl; have c_x_2 : w6.cell? ⟨g_x, 2, none⟩ = some (.slice A l.length c) := (blk_cell BKx.out 2).trans rfl; have c_r_0 : w6.cell? ⟨g_r, 0, none⟩ = some (.int .i64 0) := (blk_cell BKr.out 0).trans rfl; have f_r_0 : w6.frozen? ⟨g_r, 0, none⟩ = false := blk_frozen BKr.out 0; have c_r_1 : w6.cell? ⟨g_r, 1, none⟩ = some (.int .i64 0) := (blk_cell BKr.out 1).trans rfl; have f_r_1 : w6.frozen? ⟨g_r, 1, none⟩ = false := blk_frozen BKr.out 1; have c_r_2 : w6.cell? ⟨g_r, 2, none⟩ = some (.slice none 0 0) := (blk_cell BKr.out 2).trans rfl; have f_r_2 : w6.frozen? ⟨g_r, 2, none⟩ = false := blk_frozen BKr.out 2) | ((with_reducible refine gate_dst (N := 6) rfl ?_); refine box_event ?hg (N := 6) ?hd (cs := #[.int .i64 0, .int .i64 0, .slice none 0 0]) (t := 32) ?hr ?_; (case hd => rfl); (case hg => rfl); (case hr => first | (go_simp; done) | (go_simp; rfl)); intro g_o hg w7 hbox hb; clear c_x_0 c_x_1 c_x_2 c_r_0 c_r_1 c_r_2 f_r_0 f_r_1 f_r_2; have GE_o : w.heap.size ≤ g_o := (by rw [hg]; exact below_size HB.out); have NE_x_o : g_x ≠ g_o := (by rw [hg]; exact Nat.ne_of_lt (blk_lt BKx.out)); have NE_o_x : g_o ≠ g_x := Ne.symm NE_x_o; have NE_r_o : g_r ≠ g_o := (by rw [hg]; exact Nat.ne_of_lt (blk_lt BKr.out)); have NE_o_r : g_o ≠ g_r := Ne.symm NE_r_o; have n0_ := Aside0.mk (blk_below BKx.out hb); have n1_ := Aside0.mk (blk_below BKr.out hb); have n2_ := Aside0.mk (Kd.R_below HOo.out hb); have n3_ := Aside0.mk (below_step HB.out hb); have n4_ := Aside0.mk (hbox); clear BKx BKr HOo HB; have BKx := n0_; have BKr := n1_; have HOo := n2_; have HB := n3_; have BKo := n4_; clear n0_ n1_ n2_ n3_ n4_; clear hb hbox hg; have c_x_0 : w7.cell? ⟨g_x, 0, none⟩ = some (.int .i64 d) := (blk_cell BKx.out 0).trans rfl; have c_x_1 : w7.cell? ⟨g_x, 1, none⟩ = some (.int .i64 n) := (blk_cell BKx.out 1).trans rfl; have c_x_2 : w7.cell? ⟨g_x, 2, none⟩ = some (.slice A l.length c) := (blk_cell BKx.out 2).trans rfl; have c_r_0 : w7.cell? ⟨g_r, 0, none⟩ = some (.int .i64 0) := (blk_cell BKr.out 0).trans rfl; have f_r_0 : w7.frozen? ⟨g_r, 0, none⟩ = false := blk_frozen BKr.out 0; have c_r_1 : w7.cell? ⟨g_r, 1, none⟩ = some (.int .i64 0) := (blk_cell BKr.out 1).trans rfl; have f_r_1 : w7.frozen? ⟨g_r, 1, none⟩ = false := blk_frozen BKr.out 1; have c_r_2 : w7.cell? ⟨g_r, 2, none⟩ = some (.slice none 0 0) := (blk_cell BKr.out 2).trans rfl; have f_r_2 : w7.frozen? ⟨g_r, 2, none⟩ = false := blk_frozen BKr.out 2; have c_o_0 : w7.cell? ⟨g_o, 0, none⟩ = some (.int .i64 0) := (blk_cell BKo.out 0).trans rfl; have f_o_0 : w7.frozen? ⟨g_o, 0, none⟩ = false := blk_frozen BKo.out 0; have c_o_1 : w7.cell? ⟨g_o, 1, none⟩ = some (.int .i64 0) := (blk_cell BKo.out 1).trans rfl; have f_o_1 : w7.frozen? ⟨g_o, 1, none⟩ = false := blk_frozen BKo.out 1; have c_o_2 : w7.cell? ⟨g_o, 2, none⟩ = some (.slice none 0 0) := (blk_cell BKo.out 2).trans rfl; have f_o_2 : w7.frozen? ⟨g_o, 2, none⟩ = false := blk_frozen BKo.out 2) | ((with_reducible refine gate_store (t := 32) (p := 6) rfl ?_); refine store_event (t := 32) (p := 6) (v := ?vo_w8) (w1 := (((w7.setCell ⟨g_o, 0, none⟩ (.int .i64 d)).setCell ⟨g_o, 1, none⟩ (.int .i64 n)).setCell ⟨g_o, 2, none⟩ (.slice A0 0 c0))) ?hg ?ho ?hn ?hr ?_; (case ho => rfl); (case hg => rfl); (case hn => rfl); (case hr => first | (go_simp; done) | (go_simp; rfl)); intro w8 hw; clear c_x_0 c_x_1 c_x_2 c_r_0 c_r_1 c_r_2 f_r_0 f_r_1 f_r_2 c_o_0 c_o_1 c_o_2 f_o_0 f_o_1 f_o_2; have n0_ := Aside0.mk ((show w8.heap[g_x]? = some (.cells #[.int .i64 d, .int .i64 n, .slice A l.length c] 32 (0, 0)) from (by rw [hw]; exact (blk_far (blk_far (blk_far BKx.out NE_x_o _) NE_x_o _) NE_x_o _)))); have n1_ := Aside0.mk ((show w8.heap[g_r]? = some (.cells #[.int .i64 0, .int .i64 0, .slice none 0 0] 32 (0, 0)) from (by rw [hw]; exact (blk_far (blk_far (blk_far BKr.out NE_r_o _) NE_r_o _) NE_r_o _)))); have n2_ := Aside0.mk ((show w8.heap[g_o]? = some (.cells #[.int .i64 d, .int .i64 n, .slice A0 0 c0] 32 (0, 0)) from (by rw [hw]; exact (blk_put (cs' := #[.int .i64 d, .int .i64 n, .slice A0 0 c0]) (blk_put (cs' := #[.int .i64 d, .int .i64 n, .slice none 0 0]) (blk_put (cs' := #[.int .i64 d, .int .i64 0, .slice none 0 0]) BKo.out 0 _ rfl) 1 _ rfl) 2 _ rfl)))); have n3_ := Aside0.mk ((by rw [hw]; exact Kd.R_mono (Kd.R_far (p := ⟨g_o, 2, none⟩) (Kd.R_far (p := ⟨g_o, 1, none⟩) (Kd.R_far (p := ⟨g_o, 0, none⟩) (Kd.R_types HOo.out BKo.out (by decide)) (fun _ hk => hk.2) (.int .i64 d)) (fun _ hk => hk.2) (.int .i64 n)) (fun _ hk => hk.2) (.slice A0 0 c0)) (fun _ hk => hk.1) : Kd.R (KT) 77 w8 w.heap.size (fun _ => True) (.slice A0 0 c0) ([]))); have n4_ := Aside0.mk ((by rw [hw]; exact (below_set (below_set (below_set HB.out GE_o) GE_o) GE_o) : Below w.heap.size w w8)); clear BKx BKr BKo HOo HB; have BKx := n0_; have BKr := n1_; have BKo := n2_; have HOo := n3_; have HB := n4_; clear n0_ n1_ n2_ n3_ n4_; clear hw; have c_x_0 : w8.cell? ⟨g_x, 0, none⟩ = some (.int .i64 d) := (blk_cell BKx.out 0).trans rfl; have c_x_1 : w8.cell? ⟨g_x, 1, none⟩ = some (.int .i64 n) := (blk_cell BKx.out 1).trans rfl; have c_x_2 : w8.cell? ⟨g_x, 2, none⟩ = some (.slice A l.length c) := (blk_cell BKx.out 2).trans rfl; have c_r_0 : w8.cell? ⟨g_r, 0, none⟩ = some (.int .i64 0) := (blk_cell BKr.out 0).trans rfl; have f_r_0 : w8.frozen? ⟨g_r, 0, none⟩ = false := blk_frozen BKr.out 0; have c_r_1 : w8.cell? ⟨g_r, 1, none⟩ = some (.int .i64 0) := (blk_cell BKr.out 1).trans rfl; have f_r_1 : w8.frozen? ⟨g_r, 1, none⟩ = false := blk_frozen BKr.out 1; have c_r_2 : w8.cell? ⟨g_r, 2, none⟩ = some (.slice none 0 0) := (blk_cell BKr.out 2).trans rfl; have f_r_2 : w8.frozen? ⟨g_r, 2, none⟩ = false := blk_frozen BKr.out 2; have c_o_0 : w8.cell? ⟨g_o, 0, none⟩ = some (.int .i64 d) := (blk_cell BKo.out 0).trans rfl; have f_o_0 : w8.frozen? ⟨g_o, 0, none⟩ = false := blk_frozen BKo.out 0; have c_o_1 : w8.cell? ⟨g_o, 1, none⟩ = some (.int .i64 n) := (blk_cell BKo.out 1).trans rfl; have f_o_1 : w8.frozen? ⟨g_o, 1, none⟩ = false := blk_frozen BKo.out 1; have c_o_2 : w8.cell? ⟨g_o, 2, none⟩ = some (.slice A0 0 c0) := (blk_cell BKo.out 2).trans rfl; have f_o_2 : w8.frozen? ⟨g_o, 2, none⟩ = false := blk_frozen BKo.out 2) | ((with_reducible refine gate_store (t := 2) (p := 23) rfl ?_); refine store_event (t := 2) (p := 23) (v := ?vo_w9) (w1 := (w8.setCell ⟨g_o, 1, none⟩ (.int .i64 lim))) ?hg ?ho ?hn ?hr ?_; (case ho => rfl); (case hg => rfl); (case hn => rfl); (case hr => first | (go_simp; done) | (go_simp; rfl)); intro w9 hw; clear c_x_0 c_x_1 c_x_2 c_r_0 c_r_1 c_r_2 f_r_0 f_r_1 f_r_2 c_o_0 c_o_1 c_o_2 f_o_0 f_o_1 f_o_2; have n0_ := Aside0.mk ((show w9.heap[g_x]? = some (.cells #[.int .i64 d, .int .i64 n, .slice A l.length c] 32 (0, 0)) from (by rw [hw]; exact (blk_far BKx.out NE_x_o _)))); have n1_ := Aside0.mk ((show w9.heap[g_r]? = some (.cells #[.int .i64 0, .int .i64 0, .slice none 0 0] 32 (0, 0)) from (by rw [hw]; exact (blk_far BKr.out NE_r_o _)))); have n2_ := Aside0.mk ((show w9.heap[g_o]? = some (.cells #[.int .i64 d, .int .i64 lim, .slice A0 0 c0] 32 (0, 0)) from (by rw [hw]; exact (blk_put (cs' := #[.int .i64 d, .int .i64 lim, .slice A0 0 c0]) BKo.out 1 _ rfl)))); have n3_ := Aside0.mk ((by rw [hw]; exact Kd.R_mono (Kd.R_far (p := ⟨g_o, 1, none⟩) (Kd.R_types HOo.out BKo.out (by decide)) (fun _ hk => hk.2) (.int .i64 lim)) (fun _ hk => hk.1) : Kd.R (KT) 77 w9 w.heap.size (fun _ => True) (.slice A0 0 c0) ([]))); have n4_ := Aside0.mk ((by rw [hw]; exact (below_set HB.out GE_o) : Below w.heap.size w w9)); clear BKx BKr BKo HOo HB; have BKx := n0_; have BKr := n1_; have BKo := n2_; have HOo := n3_; have HB := n4_; clear n0_ n1_ n2_ n3_ n4_; clear hw; have c_x_0 : w9.cell? ⟨g_x, 0, none⟩ = some (.int .i64 d) := (blk_cell BKx.out 0).trans rfl; have c_x_1 : w9.cell? ⟨g_x, 1, none⟩ = some (.int .i64 n) := (blk_cell BKx.out 1).trans rfl; have c_x_2 : w9.cell? ⟨g_x, 2, none⟩ = some (.slice A l.length c) := (blk_cell BKx.out 2).trans rfl; have c_r_0 : w9.cell? ⟨g_r, 0, none⟩ = some (.int .i64 0) := (blk_cell BKr.out 0).trans rfl; have f_r_0 : w9.frozen? ⟨g_r, 0, none⟩ = false := blk_frozen BKr.out 0; have c_r_1 : w9.cell? ⟨g_r, 1, none⟩ = some (.int .i64 0) := (blk_cell BKr.out 1).trans rfl; have f_r_1 : w9.frozen? ⟨g_r, 1, none⟩ = false := blk_frozen BKr.out 1; have c_r_2 : w9.cell? ⟨g_r, 2, none⟩ = some (.slice none 0 0) := (blk_cell BKr.out 2).trans rfl; have f_r_2 : w9.frozen? ⟨g_r, 2, none⟩ = false := blk_frozen BKr.out 2; have c_o_0 : w9.cell? ⟨g_o, 0, none⟩ = some (.int .i64 d) := (blk_cell BKo.out 0).trans rfl; have f_o_0 : w9.frozen? ⟨g_o, 0, none⟩ = false := blk_frozen BKo.out 0; have c_o_1 : w9.cell? ⟨g_o, 1, none⟩ = some (.int .i64 lim) := (blk_cell BKo.out 1).trans rfl; have f_o_1 : w9.frozen? ⟨g_o, 1, none⟩ = false := blk_frozen BKo.out 1; have c_o_2 : w9.cell? ⟨g_o, 2, none⟩ = some (.slice A0 0 c0) := (blk_cell BKo.out 2).trans rfl; have f_o_2 : w9.frozen? ⟨g_o, 2, none⟩ = false := blk_frozen BKo.out 2))
      
      go_loopw [7] (fun v w' => ∃ (k : Nat) (A1 : Option Addr) (c1 : Nat) (y : Ts), k ≤ l.length ∧ v = .int .i64 (k : Int) ∧ Aside0 (y = (l.take k).filter (fun t => decide ((t.1.size : Int) ≤ lim))) ∧ Aside0 (w'.heap[g_x]? = some (.cells #[.int .i64 d, .int .i64 n, .slice A l.length c] 32 (0, 0))) ∧ Aside0 (w'.heap[g_r]? = some (.cells #[.int .i64 0, .int .i64 0, .slice none 0 0] 32 (0, 0))) ∧ Aside0 (w'.heap[g_o]? = some (.cells #[.int .i64 d, .int .i64 lim, .slice A1 y.length c1] 32 (0, 0))) ∧ Aside0 (Kd.R (KT) 77 w' w.heap.size (fun _ => True) (.slice A1 y.length c1) (y)) ∧ Aside0 (Below w.heap.size w w')) (fun v _ => l.length - (intOf v).toNat)
      case atStart => exact ⟨0, A0, c0, [], by omega, rfl, ⟨rfl⟩, BKx, BKr, BKo, HOo, HB⟩
      case round =>
        obtain ⟨k, A1, c1, y, hk, rfl, HY, BKx, BKr, BKo, HOo, HB⟩ := hrel
        by_cases hlt : k < l.length
        · obtain ⟨ad, rfl, h0_, h1_, h2_⟩ := tm_at HR.out k hlt
          obtain ⟨t, ht⟩ : ∃ t, t = l.getD k zT := ⟨_, rfl⟩
          rw [← ht] at h0_ h1_ h2_
          have hsz : t.1.size ≤ 9223372036854775807 := by
            have := HZ.out t (by rw [ht, List.getD_eq_getElem?_getD, List.getElem?_eq_getElem hlt]; exact List.getElem_mem _)
            omega
          have HT := Aside0.mk ht
          clear ht
          obtain ⟨y', hy'⟩ : ∃ y', y' = y ++ [t] := ⟨_, rfl⟩
          have Ny' := Aside0.mk hy'
          clear hy'
          have hy : y.length ≤ 1048576 := by
            have := List.length_filter_le (fun t => decide ((t.1.size : Int) ≤ lim)) (l.take k)
            rw [← HY.out, List.length_take] at this
            omega
          cases hp : decide ((t.1.size : Int) ≤ lim) with
          | true =>
            have c_x_0 : wr.cell? ⟨g_x, 0, none⟩ = some (.int .i64 d) := (blk_cell BKx.out 0).trans rfl
            have c_x_1 : wr.cell? ⟨g_x, 1, none⟩ = some (.int .i64 n) := (blk_cell BKx.out 1).trans rfl
            have c_x_2 : wr.cell? ⟨g_x, 2, none⟩ = some (.slice (some ad) l.length c) := (blk_cell BKx.out 2).trans rfl
            have c_r_0 : wr.cell? ⟨g_r, 0, none⟩ = some (.int .i64 0) := (blk_cell BKr.out 0).trans rfl
            have f_r_0 : wr.frozen? ⟨g_r, 0, none⟩ = false := blk_frozen BKr.out 0
            have c_r_1 : wr.cell? ⟨g_r, 1, none⟩ = some (.int .i64 0) := (blk_cell BKr.out 1).trans rfl
            have f_r_1 : wr.frozen? ⟨g_r, 1, none⟩ = false := blk_frozen BKr.out 1
            have c_r_2 : wr.cell? ⟨g_r, 2, none⟩ = some (.slice none 0 0) := (blk_cell BKr.out 2).trans rfl
            have f_r_2 : wr.frozen? ⟨g_r, 2, none⟩ = false := blk_frozen BKr.out 2
            have c_o_0 : wr.cell? ⟨g_o, 0, none⟩ = some (.int .i64 d) := (blk_cell BKo.out 0).trans rfl
            have f_o_0 : wr.frozen? ⟨g_o, 0, none⟩ = false := blk_frozen BKo.out 0
            have c_o_1 : wr.cell? ⟨g_o, 1, none⟩ = some (.int .i64 lim) := (blk_cell BKo.out 1).trans rfl
            have f_o_1 : wr.frozen? ⟨g_o, 1, none⟩ = false := blk_frozen BKo.out 1
            have c_o_2 : wr.cell? ⟨g_o, 2, none⟩ = some (.slice A1 y.length c1) := (blk_cell BKo.out 2).trans rfl
            have f_o_2 : wr.frozen? ⟨g_o, 2, none⟩ = false := blk_frozen BKo.out 2
            have h0 := (HB.out.cell (World.block_lt_of_cell? w _ h0_)).trans h0_
            have h1 := (HB.out.cell (World.block_lt_of_cell? w _ h1_)).trans h1_
            have h2 := (HB.out.cell (World.block_lt_of_cell? w _ h2_)).trans h2_
            go_wp2
            clear c_x_0 c_x_1 c_x_2 c_r_0 c_r_1 c_r_2 f_r_0 f_r_1 f_r_2 c_o_0 c_o_1 c_o_2 f_o_0 f_o_1 f_o_2 h0 h1 h2
            have n0_ := Aside0.mk ((show wr.drew.heap[g_x]? = some (.cells #[.int .i64 d, .int .i64 n, .slice (some ad) l.length c] 32 (0, 0)) from blk_drew BKx.out))
            have n1_ := Aside0.mk ((show wr.drew.heap[g_r]? = some (.cells #[.int .i64 0, .int .i64 0, .slice none 0 0] 32 (0, 0)) from blk_drew BKr.out))
            have n2_ := Aside0.mk ((show wr.drew.heap[g_o]? = some (.cells #[.int .i64 d, .int .i64 lim, .slice A1 y.length c1] 32 (0, 0)) from blk_drew BKo.out))
            have n3_ := Aside0.mk (Kd.R_drew HOo.out)
            have n4_ := Aside0.mk (below_drew1 HB.out)
            clear BKx BKr BKo HOo HB
            have BKx := n0_
            have BKr := n1_
            have BKo := n2_
            have HOo := n3_
            have HB := n4_
            clear n0_ n1_ n2_ n3_ n4_
            refine start_ (n := 11) (S := fun w' => w'.cell? ⟨g_x, 0, none⟩ = some (.int .i64 d) ∧ w'.cell? ⟨g_x, 1, none⟩ = some (.int .i64 n) ∧ w'.cell? ⟨g_x, 2, none⟩ = some (.slice (some ad) l.length c) ∧ w'.cell? ⟨g_r, 0, none⟩ = some (.int .i64 0) ∧ w'.cell? ⟨g_r, 1, none⟩ = some (.int .i64 0) ∧ w'.cell? ⟨g_r, 2, none⟩ = some (.slice none 0 0) ∧ w'.cell? ⟨g_o, 0, none⟩ = some (.int .i64 d) ∧ w'.cell? ⟨g_o, 1, none⟩ = some (.int .i64 lim) ∧ w'.cell? ⟨g_o, 2, none⟩ = some (.slice A1 y.length c1) ∧ w'.cell? (ad.add (k * 3)) = some (.string t.1) ∧ w'.cell? ⟨(ad.add (k * 3)).block, (ad.add (k * 3)).off + 1, none⟩ = some (.int .i64 t.2.1) ∧ w'.cell? ⟨(ad.add (k * 3)).block, (ad.add (k * 3)).off + 2, none⟩ = some (.int .i64 t.2.2)) (ds := [10]) #[false, false, false, false, false, false, false, false, false, false, false] (by kernel_rfl) rfl rfl ⟨(blk_cell BKx.out 0).trans rfl, (blk_cell BKx.out 1).trans rfl, (blk_cell BKx.out 2).trans rfl, (blk_cell BKr.out 0).trans rfl, (blk_cell BKr.out 1).trans rfl, (blk_cell BKr.out 2).trans rfl, (blk_cell BKo.out 0).trans rfl, (blk_cell BKo.out 1).trans rfl, (blk_cell BKo.out 2).trans rfl, ((HB.out.cell (World.block_lt_of_cell? w _ h0_)).trans h0_), ((HB.out.cell (World.block_lt_of_cell? w _ h1_)).trans h1_), ((HB.out.cell (World.block_lt_of_cell? w _ h2_)).trans h2_)⟩ (fun hHeld => ?_)
            generalize wr.drew = w10 at BKx BKr BKo HOo HB hHeld ⊢
            refine pure_ (i := 0) (N := some 40) (v := ?_) (a' := ?_) #[true, false, false, false, false, false, false, false, false, false, false] rfl rfl (by kernel_rfl) (fun _ _ _ h => h) (Or.inl ⟨by rfl, ?_⟩) ?_ ?_
            rotate_left
            · intro w'
              go_simp
              with_reducible rfl
            rotate_left
            · simp only [Act.put, List.setIfInBounds_toArray, List.set_cons_zero, List.set_cons_succ, i64_w, i32_w]
              rfl
            refine pure_ (i := 2) (N := some 42) (v := ?_) (a' := ?_) #[true, false, true, false, false, false, false, false, false, false, false] rfl rfl (by kernel_rfl) (fun _ _ _ h => h) (Or.inl ⟨by rfl, ?_⟩) ?_ ?_
            rotate_left
            · intro w'
              go_simp
              with_reducible rfl
            rotate_left
            · simp only [Act.put, List.setIfInBounds_toArray, List.set_cons_zero, List.set_cons_succ, i64_w, i32_w]
              rfl
            refine pure_ (i := 4) (N := some 44) (v := ?_) (a' := ?_) #[true, false, true, false, true, false, false, false, false, false, false] rfl rfl (by kernel_rfl) (fun _ _ _ h => h) (Or.inl ⟨by rfl, ?_⟩) ?_ ?_
            rotate_left
            · intro w'
              go_simp
              with_reducible rfl
            rotate_left
            · simp only [Act.put, List.setIfInBounds_toArray, List.set_cons_zero, List.set_cons_succ, i64_w, i32_w]
              rfl
            refine take_ (i := 1) (N := some 41) (v := ?_) (a' := ?_) #[true, true, true, false, true, false, false, false, false, false, false] rfl rfl (by kernel_rfl) (fun _ _ _ h => h) (Or.inl ⟨by rfl, ?_⟩) hHeld ?_ ?_
            rotate_left
            · rintro w' ⟨s0, s1, s2, s3, s4, s5, s6, s7, s8, s9, s10, s11⟩
              go_simp
              with_reducible rfl
            rotate_left
            · simp only [Act.put, List.setIfInBounds_toArray, List.set_cons_zero, List.set_cons_succ, i64_w, i32_w]
              rfl
            refine take_ (i := 3) (N := some 43) (v := ?_) (a' := ?_) #[true, true, true, true, true, false, false, false, false, false, false] rfl rfl (by kernel_rfl) (fun _ _ _ h => h) (Or.inl ⟨by rfl, ?_⟩) hHeld ?_ ?_
            rotate_left
            · rintro w' ⟨s0, s1, s2, s3, s4, s5, s6, s7, s8, s9, s10, s11⟩
              go_simp
              with_reducible rfl
            rotate_left
            · simp only [Act.put, List.setIfInBounds_toArray, List.set_cons_zero, List.set_cons_succ, i64_w, i32_w]
              rfl
            refine pure_ (i := 5) (N := some 45) (v := ?_) (a' := ?_) #[true, true, true, true, true, true, false, false, false, false, false] rfl rfl (by kernel_rfl) (fun _ _ _ h => h) (Or.inl ⟨by rfl, ?_⟩) ?_ ?_
            rotate_left
            · intro w'
              go_simp
              with_reducible rfl
            rotate_left
            · simp only [Act.put, List.setIfInBounds_toArray, List.set_cons_zero, List.set_cons_succ, i64_w, i32_w]
              rfl
            refine take_ (i := 6) (N := some 46) (v := ?_) (a' := ?_) #[true, true, true, true, true, true, true, false, false, false, false] rfl rfl (by kernel_rfl) (fun _ _ _ h => h) (Or.inl ⟨by rfl, ?_⟩) hHeld ?_ ?_
            rotate_left
            · rintro w' ⟨s0, s1, s2, s3, s4, s5, s6, s7, s8, s9, s10, s11⟩
              go_simp
              with_reducible rfl
            rotate_left
            · simp only [Act.put, List.setIfInBounds_toArray, List.set_cons_zero, List.set_cons_succ, i64_w, i32_w]
              rfl
            refine one_ (i := 7) (N := some 47) #[true, true, true, true, true, true, true, true, false, false, false] rfl rfl (by kernel_rfl) (by decide) (fun K hK => ?_)
            refine value_ (w1 := ?_) (v := ?_) (by rfl) rfl ?_ ?_
            rotate_left 2
            · go_simp
              constructor
              · rfl
              · rfl
            refine hK.out _ _ (⟨(blk_cell (blk_alloc BKx.out _) 0).trans rfl, (blk_cell (blk_alloc BKx.out _) 1).trans rfl, (blk_cell (blk_alloc BKx.out _) 2).trans rfl, (blk_cell (blk_alloc BKr.out _) 0).trans rfl, (blk_cell (blk_alloc BKr.out _) 1).trans rfl, (blk_cell (blk_alloc BKr.out _) 2).trans rfl, (blk_cell (blk_alloc BKo.out _) 0).trans rfl, (blk_cell (blk_alloc BKo.out _) 1).trans rfl, (blk_cell (blk_alloc BKo.out _) 2).trans rfl, (World.cell?_alloc_lt _ _ _ (World.block_lt_of_cell? _ _ ((HB.out.cell (World.block_lt_of_cell? w _ h0_)).trans h0_))).trans ((HB.out.cell (World.block_lt_of_cell? w _ h0_)).trans h0_), (World.cell?_alloc_lt _ _ _ (World.block_lt_of_cell? _ _ ((HB.out.cell (World.block_lt_of_cell? w _ h1_)).trans h1_))).trans ((HB.out.cell (World.block_lt_of_cell? w _ h1_)).trans h1_), (World.cell?_alloc_lt _ _ _ (World.block_lt_of_cell? _ _ ((HB.out.cell (World.block_lt_of_cell? w _ h2_)).trans h2_))).trans ((HB.out.cell (World.block_lt_of_cell? w _ h2_)).trans h2_)⟩) (fun hHeld => ?_)
            clear hK K
            refine norm_ (a' := ?_) ?_ ?_
            rotate_left
            · show Act.put _ (some 47) _ = _
              simp only [Act.put, List.setIfInBounds_toArray, List.set_cons_zero, List.set_cons_succ, i64_w, i32_w]
              rfl
            refine one_ (i := 8) (N := some 48) #[true, true, true, true, true, true, true, true, true, false, false] rfl rfl (by kernel_rfl) (by decide) (fun K hK => ?_)
            refine Kd.R_append_step (KT) (w0 := w) w.heap.size (by rfl) (.tmp 41) (.tmp 47) 30 77 (.agg #[(.string ⟨#[]⟩), (.int .i64 0), (.int .i64 0)]) 32 rfl Try.underlying30 infoTerm rfl (by decide) (by omega) (.slice A1 y.length c1) (y) (t) ([.string t.1, .int .i64 t.2.1, .int .i64 t.2.2]) (fun _ => True) (fun _ => False) rfl (by first | rfl | (show Value.slice (some ⟨_, 0, none⟩) 1 1 = _; simp)) ?aP (fun _ hk => hk.elim) (fun _ _ => trivial) HOo.out HB.out (below_size HB.out) ?aL ?_
            (case aP => exact KT_M _ _ _ t)
            (case aL => omega)
            intro v_w11 w11 ho hb hg hat
            clear hat
            have n0_ := Aside0.mk (blk_grown BKx.out hg (Kd.R_ne HOo.out BKx.out (by decide)))
            have n1_ := Aside0.mk (blk_grown BKr.out hg (Kd.R_ne HOo.out BKr.out (by decide)))
            have n2_ := Aside0.mk (blk_grown BKo.out hg (Kd.R_ne HOo.out BKo.out (by decide)))
            have n3_ := Aside0.mk ((by rw [Ny'.out]; exact ho : Kd.R (KT) 77 w11 w.heap.size (fun _ => True) v_w11 y'))
            have n4_ := Aside0.mk (hb)
            clear BKx BKr BKo HOo HB
            have BKx := n0_
            have BKr := n1_
            have BKo := n2_
            have HOo := n3_
            have HB := n4_
            clear n0_ n1_ n2_ n3_ n4_
            clear hg hb ho
            obtain ⟨A_w11, k_w11, e_w11⟩ := Kd.R_slice HOo.out
            subst e_w11
            refine hK.out _ _ (⟨(blk_cell BKx.out 0).trans rfl, (blk_cell BKx.out 1).trans rfl, (blk_cell BKx.out 2).trans rfl, (blk_cell BKr.out 0).trans rfl, (blk_cell BKr.out 1).trans rfl, (blk_cell BKr.out 2).trans rfl, (blk_cell BKo.out 0).trans rfl, (blk_cell BKo.out 1).trans rfl, (blk_cell BKo.out 2).trans rfl, ((HB.out.cell (World.block_lt_of_cell? w _ h0_)).trans h0_), ((HB.out.cell (World.block_lt_of_cell? w _ h1_)).trans h1_), ((HB.out.cell (World.block_lt_of_cell? w _ h2_)).trans h2_)⟩) (fun hHeld => ?_)
            clear hK K
            refine norm_ (a' := ?_) ?_ ?_
            rotate_left
            · show Act.put _ (some 48) _ = _
              simp only [Act.put, List.setIfInBounds_toArray, List.set_cons_zero, List.set_cons_succ, i64_w, i32_w]
              rfl
            refine pure_ (i := 9) (N := some 49) (v := ?_) (a' := ?_) #[true, true, true, true, true, true, true, true, true, true, false] rfl rfl (by kernel_rfl) (fun _ _ _ h => h) (Or.inl ⟨by rfl, ?_⟩) ?_ ?_
            rotate_left
            · intro w'
              go_simp
              with_reducible rfl
            rotate_left
            · simp only [Act.put, List.setIfInBounds_toArray, List.set_cons_zero, List.set_cons_succ, i64_w, i32_w]
              rfl
            refine last_ (i := 10) (N := none) #[true, true, true, true, true, true, true, true, true, true, true] rfl rfl (by kernel_rfl) (by decide) (fun K hK => ?_)
            have c_o_2 : w11.cell? ⟨g_o, 2, none⟩ = some (.slice A1 y.length c1) := (blk_cell BKo.out 2).trans rfl
            have f_o_2 : w11.frozen? ⟨g_o, 2, none⟩ = false := blk_frozen BKo.out 2
            refine skip_ (w1 := ?_) (by rfl) rfl ?_ ?_
            rotate_left
            · go_simp
              rfl
            refine hK.out _ _ ?_
            clear hK K
            refine done_ (by kernel_rfl) ?_

            generalize hw : (w11.setCell ⟨g_o, 2, none⟩ (.slice A_w11 y'.length k_w11)) = w12
            replace hw := hw.symm
            clear c_o_2 f_o_2
            have n0_ := Aside0.mk ((show w12.heap[g_x]? = some (.cells #[.int .i64 d, .int .i64 n, .slice (some ad) l.length c] 32 (0, 0)) from (by rw [hw]; exact (blk_far BKx.out NE_x_o _))))
            have n1_ := Aside0.mk ((show w12.heap[g_r]? = some (.cells #[.int .i64 0, .int .i64 0, .slice none 0 0] 32 (0, 0)) from (by rw [hw]; exact (blk_far BKr.out NE_r_o _))))
            have n2_ := Aside0.mk ((show w12.heap[g_o]? = some (.cells #[.int .i64 d, .int .i64 lim, .slice A_w11 y'.length k_w11] 32 (0, 0)) from (by rw [hw]; exact (blk_put (cs' := #[.int .i64 d, .int .i64 lim, .slice A_w11 y'.length k_w11]) BKo.out 2 _ rfl))))
            have n3_ := Aside0.mk ((by rw [hw]; exact Kd.R_mono (Kd.R_far (p := ⟨g_o, 2, none⟩) (Kd.R_types HOo.out BKo.out (by decide)) (fun _ hk => hk.2) (.slice A_w11 y'.length k_w11)) (fun _ hk => hk.1) : Kd.R (KT) 77 w12 w.heap.size (fun _ => True) (.slice A_w11 y'.length k_w11) (y')))
            have n4_ := Aside0.mk ((by rw [hw]; exact (below_set HB.out GE_o) : Below w.heap.size w w12))
            clear BKx BKr BKo HOo HB
            have BKx := n0_
            have BKr := n1_
            have BKo := n2_
            have HOo := n3_
            have HB := n4_
            clear n0_ n1_ n2_ n3_ n4_
            clear hw
            have c_x_0 : w12.cell? ⟨g_x, 0, none⟩ = some (.int .i64 d) := (blk_cell BKx.out 0).trans rfl
            have c_x_1 : w12.cell? ⟨g_x, 1, none⟩ = some (.int .i64 n) := (blk_cell BKx.out 1).trans rfl
            have c_x_2 : w12.cell? ⟨g_x, 2, none⟩ = some (.slice (some ad) l.length c) := (blk_cell BKx.out 2).trans rfl
            have c_r_0 : w12.cell? ⟨g_r, 0, none⟩ = some (.int .i64 0) := (blk_cell BKr.out 0).trans rfl
            have f_r_0 : w12.frozen? ⟨g_r, 0, none⟩ = false := blk_frozen BKr.out 0
            have c_r_1 : w12.cell? ⟨g_r, 1, none⟩ = some (.int .i64 0) := (blk_cell BKr.out 1).trans rfl
            have f_r_1 : w12.frozen? ⟨g_r, 1, none⟩ = false := blk_frozen BKr.out 1
            have c_r_2 : w12.cell? ⟨g_r, 2, none⟩ = some (.slice none 0 0) := (blk_cell BKr.out 2).trans rfl
            have f_r_2 : w12.frozen? ⟨g_r, 2, none⟩ = false := blk_frozen BKr.out 2
            have c_o_0 : w12.cell? ⟨g_o, 0, none⟩ = some (.int .i64 d) := (blk_cell BKo.out 0).trans rfl
            have f_o_0 : w12.frozen? ⟨g_o, 0, none⟩ = false := blk_frozen BKo.out 0
            have c_o_1 : w12.cell? ⟨g_o, 1, none⟩ = some (.int .i64 lim) := (blk_cell BKo.out 1).trans rfl
            have f_o_1 : w12.frozen? ⟨g_o, 1, none⟩ = false := blk_frozen BKo.out 1
            have c_o_2 : w12.cell? ⟨g_o, 2, none⟩ = some (.slice A_w11 y'.length k_w11) := (blk_cell BKo.out 2).trans rfl
            have f_o_2 : w12.frozen? ⟨g_o, 2, none⟩ = false := blk_frozen BKo.out 2
            have h0 := (HB.out.cell (World.block_lt_of_cell? w _ h0_)).trans h0_
            have h1 := (HB.out.cell (World.block_lt_of_cell? w _ h1_)).trans h1_
            have h2 := (HB.out.cell (World.block_lt_of_cell? w _ h2_)).trans h2_
            go_wp2
            go_roundw
            case rel => exact ⟨k + 1, A_w11, k_w11, y', by omega, by go_num, ⟨by rw [Ny'.out, HY.out, filter_take _ _ zT k hlt, ← HT.out, hp]; rfl⟩, BKx, BKr, BKo, HOo, HB⟩
            case measure => simp [intOf]; omega
          | false =>
            
            have c_x_0 : wr.cell? ⟨g_x, 0, none⟩ = some (.int .i64 d) := (blk_cell BKx.out 0).trans rfl
            have c_x_1 : wr.cell? ⟨g_x, 1, none⟩ = some (.int .i64 n) := (blk_cell BKx.out 1).trans rfl
            have c_x_2 : wr.cell? ⟨g_x, 2, none⟩ = some (.slice (some ad) l.length c) := (blk_cell BKx.out 2).trans rfl
            have c_r_0 : wr.cell? ⟨g_r, 0, none⟩ = some (.int .i64 0) := (blk_cell BKr.out 0).trans rfl
            have f_r_0 : wr.frozen? ⟨g_r, 0, none⟩ = false := blk_frozen BKr.out 0
            have c_r_1 : wr.cell? ⟨g_r, 1, none⟩ = some (.int .i64 0) := (blk_cell BKr.out 1).trans rfl
            have f_r_1 : wr.frozen? ⟨g_r, 1, none⟩ = false := blk_frozen BKr.out 1
            have c_r_2 : wr.cell? ⟨g_r, 2, none⟩ = some (.slice none 0 0) := (blk_cell BKr.out 2).trans rfl
            have f_r_2 : wr.frozen? ⟨g_r, 2, none⟩ = false := blk_frozen BKr.out 2
            have c_o_0 : wr.cell? ⟨g_o, 0, none⟩ = some (.int .i64 d) := (blk_cell BKo.out 0).trans rfl
            have f_o_0 : wr.frozen? ⟨g_o, 0, none⟩ = false := blk_frozen BKo.out 0
            have c_o_1 : wr.cell? ⟨g_o, 1, none⟩ = some (.int .i64 lim) := (blk_cell BKo.out 1).trans rfl
            have f_o_1 : wr.frozen? ⟨g_o, 1, none⟩ = false := blk_frozen BKo.out 1
            have c_o_2 : wr.cell? ⟨g_o, 2, none⟩ = some (.slice A1 y.length c1) := (blk_cell BKo.out 2).trans rfl
            have f_o_2 : wr.frozen? ⟨g_o, 2, none⟩ = false := blk_frozen BKo.out 2
            have h0 := (HB.out.cell (World.block_lt_of_cell? w _ h0_)).trans h0_
            have h1 := (HB.out.cell (World.block_lt_of_cell? w _ h1_)).trans h1_
            have h2 := (HB.out.cell (World.block_lt_of_cell? w _ h2_)).trans h2_
            go_wp2
            go_roundw
            case rel => exact ⟨k + 1, A1, c1, y, by omega, by go_num, ⟨by rw [HY.out, filter_take _ _ zT k hlt, ← HT.out, hp]; simp⟩, BKx, BKr, BKo, HOo, HB⟩
            case measure => simp [intOf]; omega
        · 
          have c_x_0 : wr.cell? ⟨g_x, 0, none⟩ = some (.int .i64 d) := (blk_cell BKx.out 0).trans rfl
          have c_x_1 : wr.cell? ⟨g_x, 1, none⟩ = some (.int .i64 n) := (blk_cell BKx.out 1).trans rfl
          have c_x_2 : wr.cell? ⟨g_x, 2, none⟩ = some (.slice A l.length c) := (blk_cell BKx.out 2).trans rfl
          have c_r_0 : wr.cell? ⟨g_r, 0, none⟩ = some (.int .i64 0) := (blk_cell BKr.out 0).trans rfl
          have f_r_0 : wr.frozen? ⟨g_r, 0, none⟩ = false := blk_frozen BKr.out 0
          have c_r_1 : wr.cell? ⟨g_r, 1, none⟩ = some (.int .i64 0) := (blk_cell BKr.out 1).trans rfl
          have f_r_1 : wr.frozen? ⟨g_r, 1, none⟩ = false := blk_frozen BKr.out 1
          have c_r_2 : wr.cell? ⟨g_r, 2, none⟩ = some (.slice none 0 0) := (blk_cell BKr.out 2).trans rfl
          have f_r_2 : wr.frozen? ⟨g_r, 2, none⟩ = false := blk_frozen BKr.out 2
          have c_o_0 : wr.cell? ⟨g_o, 0, none⟩ = some (.int .i64 d) := (blk_cell BKo.out 0).trans rfl
          have f_o_0 : wr.frozen? ⟨g_o, 0, none⟩ = false := blk_frozen BKo.out 0
          have c_o_1 : wr.cell? ⟨g_o, 1, none⟩ = some (.int .i64 lim) := (blk_cell BKo.out 1).trans rfl
          have f_o_1 : wr.frozen? ⟨g_o, 1, none⟩ = false := blk_frozen BKo.out 1
          have c_o_2 : wr.cell? ⟨g_o, 2, none⟩ = some (.slice A1 y.length c1) := (blk_cell BKo.out 2).trans rfl
          have f_o_2 : wr.frozen? ⟨g_o, 2, none⟩ = false := blk_frozen BKo.out 2
          go_wp2_with (first | ((with_reducible refine gate_store (t := 32) (p := 4) rfl ?_); refine store_event (t := 32) (p := 4) (v := ?vo_w10) (w1 := (((wr.setCell ⟨g_r, 0, none⟩ (.int .i64 d)).setCell ⟨g_r, 1, none⟩ (.int .i64 lim)).setCell ⟨g_r, 2, none⟩ (.slice A1 y.length c1))) ?hg ?ho ?hn ?hr ?_; (case ho => rfl); (case hg => rfl); (case hn => rfl); (case hr => first | (go_simp; done) | (go_simp; rfl)); intro w10 hw; clear c_x_0 c_x_1 c_x_2 c_r_0 c_r_1 c_r_2 f_r_0 f_r_1 f_r_2 c_o_0 c_o_1 c_o_2 f_o_0 f_o_1 f_o_2; have n0_ := Aside0.mk ((show w10.heap[g_x]? = some (.cells #[.int .i64 d, .int .i64 n, .slice A l.length c] 32 (0, 0)) from (by rw [hw]; exact (blk_far (blk_far (blk_far BKx.out NE_x_r _) NE_x_r _) NE_x_r _)))); have n1_ := Aside0.mk ((show w10.heap[g_r]? = some (.cells #[.int .i64 d, .int .i64 lim, .slice A1 y.length c1] 32 (0, 0)) from (by rw [hw]; exact (blk_put (cs' := #[.int .i64 d, .int .i64 lim, .slice A1 y.length c1]) (blk_put (cs' := #[.int .i64 d, .int .i64 lim, .slice none 0 0]) (blk_put (cs' := #[.int .i64 d, .int .i64 0, .slice none 0 0]) BKr.out 0 _ rfl) 1 _ rfl) 2 _ rfl)))); have n2_ := Aside0.mk ((show w10.heap[g_o]? = some (.cells #[.int .i64 d, .int .i64 lim, .slice A1 y.length c1] 32 (0, 0)) from (by rw [hw]; exact (blk_far (blk_far (blk_far BKo.out NE_o_r _) NE_o_r _) NE_o_r _)))); have n3_ := Aside0.mk ((by rw [hw]; exact Kd.R_mono (Kd.R_far (p := ⟨g_r, 2, none⟩) (Kd.R_far (p := ⟨g_r, 1, none⟩) (Kd.R_far (p := ⟨g_r, 0, none⟩) (Kd.R_types HOo.out BKr.out (by decide)) (fun _ hk => hk.2) (.int .i64 d)) (fun _ hk => hk.2) (.int .i64 lim)) (fun _ hk => hk.2) (.slice A1 y.length c1)) (fun _ hk => hk.1) : Kd.R (KT) 77 w10 w.heap.size (fun _ => True) (.slice A1 y.length c1) (y))); have n4_ := Aside0.mk ((by rw [hw]; exact (below_set (below_set (below_set HB.out GE_r) GE_r) GE_r) : Below w.heap.size w w10)); clear BKx BKr BKo HOo HB; have BKx := n0_; have BKr := n1_; have BKo := n2_; have HOo := n3_; have HB := n4_; clear n0_ n1_ n2_ n3_ n4_; clear hw; have c_x_0 : w10.cell? ⟨g_x, 0, none⟩ = some (.int .i64 d) := (blk_cell BKx.out 0).trans rfl; have c_x_1 : w10.cell? ⟨g_x, 1, none⟩ = some (.int .i64 n) := (blk_cell BKx.out 1).trans rfl; have c_x_2 : w10.cell? ⟨g_x, 2, none⟩ = some (.slice A l.length c) := (blk_cell BKx.out 2).trans rfl; have c_r_0 : w10.cell? ⟨g_r, 0, none⟩ = some (.int .i64 d) := (blk_cell BKr.out 0).trans rfl; have f_r_0 : w10.frozen? ⟨g_r, 0, none⟩ = false := blk_frozen BKr.out 0; have c_r_1 : w10.cell? ⟨g_r, 1, none⟩ = some (.int .i64 lim) := (blk_cell BKr.out 1).trans rfl; have f_r_1 : w10.frozen? ⟨g_r, 1, none⟩ = false := blk_frozen BKr.out 1; have c_r_2 : w10.cell? ⟨g_r, 2, none⟩ = some (.slice A1 y.length c1) := (blk_cell BKr.out 2).trans rfl; have f_r_2 : w10.frozen? ⟨g_r, 2, none⟩ = false := blk_frozen BKr.out 2; have c_o_0 : w10.cell? ⟨g_o, 0, none⟩ = some (.int .i64 d) := (blk_cell BKo.out 0).trans rfl; have f_o_0 : w10.frozen? ⟨g_o, 0, none⟩ = false := blk_frozen BKo.out 0; have c_o_1 : w10.cell? ⟨g_o, 1, none⟩ = some (.int .i64 lim) := (blk_cell BKo.out 1).trans rfl; have f_o_1 : w10.frozen? ⟨g_o, 1, none⟩ = false := blk_frozen BKo.out 1; have c_o_2 : w10.cell? ⟨g_o, 2, none⟩ = some (.slice A1 y.length c1) := (blk_cell BKo.out 2).trans rfl; have f_o_2 : w10.frozen? ⟨g_o, 2, none⟩ = false := blk_frozen BKo.out 2))
          refine bodyPost_ret (results_ct rfl _ _ g_r 32 #[.int .i64 d, .int .i64 lim, .slice A1 y.length c1] (0, 0) _ rfl BKr.out Try.underlying32 rfl (by kernel_rfl)) rfl ?_
          exact ⟨_, rfl, by rw [HY.out, List.take_of_length_le (by omega)] at HOo; rw [HY.out, List.take_of_length_le (by omega)]; exact HOo.out, HB.out⟩
end Go.Proofs.Ytcklblagklojhaa.H
