/- Series and fractions as results, the unit: what all later texts use. Conditions: the bounds that stand in each statement. -/
import Derived.Test.YtaheikponfmdiaaKTable4
import Derived.Test.YtaheikponfmdiaaKIs
import Derived.Test.YtaheikponfmdiaaKVal
namespace Go.Proofs.Ytaheikponfmdiaa.H
open Go.RowKit Go.Proofs.YtaheikponfmdiaaW.PrintWords Go.Proofs.YtaheikponfmdiaaW.PrintLast Go.Proofs.YtaheikponfmdiaaW.PrintMore Go.Proofs.Ytaheikponfmdiaa.M
attribute [local go_sem] max2_int min2_int max_two min_two max_three min_three max_four min_four
set_option linter.unusedVariables false
set_option linter.unusedSimpArgs false
set_option maxRecDepth 100000
def RetF (w : World) (r : Rf) (e : Ending) (w' : World) : Prop := e = .returned (.tuple #[.agg #[.int .i64 r.1, .int .i64 r.2.1], .int .i64 r.2.2]) ∧ Below w.heap.size w w'
/-- A series and whether all has fitted. -/
def RetQ (w : World) (r : Int × Int × Ts × Bool) (e : Ending) (w' : World) : Prop := ∃ B b, e = .returned (.tuple #[.agg #[.int .i64 r.1, .int .i64 r.2.1, .slice B r.2.2.1.length b], .bool r.2.2.2]) ∧ Sep w w' [rowT B b r.2.2.1]
theorem specEmpty (d n : Int) (A : Option Addr) (m c : Nat) (w : World) : Calls Try.prog 135 #[.agg #[.int .i64 d, .int .i64 n, .slice A m c]] w fun e w' => ∃ B b, e = .returned (.agg #[.int .i64 d, .int .i64 n, .slice B 0 b]) ∧ Sep w w' [rowT B b []] := by
  have HS := Aside0.mk (Sep.refl w)
  go_enter Try.func135, Try.ntmps135
  go_wp2_with (first | ((with_reducible refine gate_dst (N := 1) rfl ?_); refine bxL 24 #[.int .i64 d, .int .i64 n, .slice A m c] HS ?_; clear HS; intro g_x w1 hg_x HS) | ((with_reducible refine gate_dst (N := 2) rfl ?_); refine bxL 24 #[(.int .i64 0), (.int .i64 0), (.slice none 0 0)] HS ?_; clear HS; intro g_r w1 hg_r HS; have f1_ := HS.out.c 1 0 (v := .int .i64 d) rfl rfl; have f2_ := HS.out.c 1 1 (v := .int .i64 n) rfl rfl) | ((with_reducible refine gate_dst (N := 7) rfl ?_); refine wpList_stp (fun K hK => ?_); refine stp_lit (KT) rfl 66 (by rfl) HS (xs := ([] : Ts)) (inner := []) (by first | (go_simp; done) | (go_simp; rfl)) (fun W base ok => Reps.none _ _) (by simp) ?_; clear HS f1_ f2_; intro A_z c_z w1 HS; refine hK _ _ ?_; clear hK K) | ((with_reducible refine gate_store (t := 24) (p := 2) rfl ?_); refine stL HS 1 0 #[(.int .i64 d), (.int .i64 n), (.slice A_z (([] : Ts)).length c_z)] rfl rfl rfl rfl rfl ?_; clear HS; intro w1 HS))
  refine bodyPost_ret (results_cell_row rfl _ _ g_r 24 #[(.int .i64 d), (.int .i64 n), (.slice A_z (([] : Ts)).length c_z)] (0, 0) _ rfl (HS.out.at (i := 1) rfl) Try.underlying24 rfl (by kernel_rfl)) rfl ?_
  replace HS : Aside0 (Mod _ _ _ [_]) := sX HS [0]
  exact ⟨A_z, c_z, rfl, HS.out⟩
theorem specOne (k : Int) (w : World) : Calls Try.prog 180 #[.int .i64 k] w fun e w' => e = .returned (.agg #[.int .i64 k, .int .i64 1]) ∧ Below w.heap.size w w' := by
  have HS := Aside0.mk (Sep.refl w)
  go_enter Try.func180, Try.ntmps180
  go_wp2_with (first | ((with_reducible refine gate_dst (N := 2) rfl ?_); refine bxL 35 #[(.int .i64 0), (.int .i64 0)] HS ?_; clear HS; intro g_r w1 hg_r HS) | ((with_reducible refine gate_store (t := 35) (p := 2) rfl ?_); refine stL HS 0 0 #[(.int .i64 k), (.int .i64 1)] rfl rfl rfl rfl rfl ?_; clear HS; intro w1 HS))
  refine bodyPost_ret (results_cell_row rfl _ _ g_r 35 #[(.int .i64 k), (.int .i64 1)] (0, 0) _ rfl (HS.out.at (i := 0) rfl) Try.underlying35 rfl (by kernel_rfl)) rfl ?_
  exact ⟨rfl, HS.out.below⟩
set_option maxHeartbeats 4000000 in
theorem specUnit (d n : Int) (A : Option Addr) (m c : Nat) (w : World) : Calls Try.prog 142 #[.agg #[.int .i64 d, .int .i64 n, .slice A m c]] w fun e w' => ∃ B b, e = .returned (.agg #[.int .i64 d, .int .i64 n, .slice B unitT.length b]) ∧ Sep w w' [rowT B b unitT] := by
  have HS := Aside0.mk (Sep.refl w)
  go_enter Try.func142, Try.ntmps142
  go_wp2_with (first | ((with_reducible refine gate_dst (N := 1) rfl ?_); refine bxL 24 #[.int .i64 d, .int .i64 n, .slice A m c] HS ?_; clear HS; intro g_x w1 hg_x HS) | ((with_reducible refine gate_dst (N := 2) rfl ?_); refine bxL 24 #[(.int .i64 0), (.int .i64 0), (.slice none 0 0)] HS ?_; clear HS; intro g_r w1 hg_r HS; have f1_ := HS.out.c 1 0 (v := .int .i64 d) rfl rfl; have f2_ := HS.out.c 1 1 (v := .int .i64 n) rfl rfl; have f3_ := HS.out.c 1 2 (v := .slice A m c) rfl rfl) | (go_at_call 135; refine (specEmpty d n A m c _).mono ?_; rintro e_ w1 ⟨B, b, rfl, hs⟩; replace HS := sN1 HS hs; clear hs f1_ f2_ f3_) | ((with_reducible refine gate_dst (N := 3) rfl ?_); refine bxL 24 #[(.int .i64 0), (.int .i64 0), (.slice none 0 0)] HS ?_; clear HS; intro g_y w1 hg_y HS) | ((with_reducible refine gate_store (t := 24) (p := 3) rfl ?_); refine stL HS 0 0 #[.int .i64 d, .int .i64 n, .slice B ([] : Ts).length b] rfl rfl rfl rfl rfl ?_; clear HS; intro w1 HS))
  replace HS := sD HS
  refine ps (.p 0 (.t 1 (.e 2 (.p 3 (.e 4 (.d 5 (.p 6 (.d 7 .done)))))))) (fun w' => w'.cell? ⟨g_y, 2, none⟩ = some (.slice B ([] : Ts).length b)) [5, 7] (HS.out.c 0 2 (v := .slice B ([] : Ts).length b) rfl rfl) (fun hHeld => ?_)
  repeat (first | ((with_reducible refine gate_p ?_); refine rp rfl rfl ?_) | ((with_reducible refine gate_t ?_); refine rt rfl rfl hHeld ?_))
  refine run_e rfl (fun K hK => ?_)
  refine gc Try.func180 (specOne 1 _) rfl rfl ?_
  rintro e_ w1 ⟨rfl, hb⟩
  refine ⟨_, rfl, ?_⟩
  replace HS := sB HS hb
  clear hb
  refine ge hK (HS.out.c 0 2 (v := .slice B ([] : Ts).length b) rfl rfl) (fun hHeld => ?_)
  clear hK K
  repeat (first | ((with_reducible refine gate_p ?_); refine rp rfl rfl ?_) | ((with_reducible refine gate_t ?_); refine rt rfl rfl hHeld ?_))
  refine run_e rfl (fun K hK => ?_)
  refine stp_lit (KT) rfl 66 (by rfl) HS (xs := [((eps, 1, 1) : Tm)]) (inner := [.string eps, .int .i64 1, .int .i64 1]) (by first | (go_simp; done) | (go_simp; rfl)) (fun W base ok => Reps.snoc (Reps.none _ _) (KT_M (eps, 1, 1) W base ok) rfl) (by simp) ?_
  clear HS
  intro A_z c_z w1 HS
  refine ge hK (HS.out.c 1 2 (v := .slice B ([] : Ts).length b) rfl rfl) (fun hHeld => ?_)
  clear hK K
  refine run_d rfl (fun K hK => ?_)
  refine stp_rows KT rfl (fun _ _ _ _ _ h => h) (by rfl) HS 2 (xs := []) rfl (.tmp 7) (.tmp 10) 22 (.agg #[(.string ⟨#[]⟩), (.int .i64 0), (.int .i64 0)]) 32 rfl Try.underlying22 infoTerm (by kernel_rfl) [((eps, 1, 1) : Tm)] rfl rfl (HS.out.reads 0 rfl) (by decide) ?_
  clear HS
  intro A_y' c_y' y' w1 Ny' HS
  simp only [List.set_cons_zero, List.set_cons_succ] at HS
  refine gd hK ?_
  clear hK K
  repeat (first | ((with_reducible refine gate_p ?_); refine rp rfl rfl ?_) | ((with_reducible refine gate_t ?_); refine rt rfl rfl hHeld ?_))
  refine run_d rfl (fun K hK => ?_)
  refine st1 HS 1 2 #[.int .i64 d, .int .i64 n, (.slice A_y' y'.length c_y')] rfl rfl rfl rfl rfl ?_
  clear HS
  intro w1 HS
  refine goD hK rfl ?_
  clear hK K
  refine run_done ?_
  clear hHeld
  have f1_ := HS.out.c 1 0 (v := .int .i64 d) rfl rfl
  have f2_ := HS.out.c 1 1 (v := .int .i64 n) rfl rfl
  have f3_ := HS.out.c 1 2 (v := (.slice A_y' y'.length c_y')) rfl rfl
  go_wp2_with (first | ((with_reducible refine gate_store (t := 24) (p := 2) rfl ?_); refine stL HS 3 0 #[.int .i64 d, .int .i64 n, (.slice A_y' y'.length c_y')] rfl rfl rfl rfl rfl ?_; clear HS f1_ f2_ f3_; intro w1 HS))
  refine bodyPost_ret (results_cell_row rfl _ _ g_r 24 #[.int .i64 d, .int .i64 n, (.slice A_y' y'.length c_y')] (0, 0) _ rfl (HS.out.at (i := 3) rfl) Try.underlying24 rfl (by kernel_rfl)) rfl ?_
  obtain rfl := Ny'.out
  replace HS : Aside0 (Mod _ _ _ [_]) := sX HS [2]
  exact ⟨A_y', c_y', rfl, HS.out⟩
theorem nilS {w W : World} (h : Sep w W []) : Sep w W [rowT none 0 []] := by
  have := (h.nil (d := KT) (hE := rfl) (e := 66))
  exact this
theorem specConstant (d n : Int) (A : Option Addr) (c : Nat) (l : Ts) (w : World) (hr : KT.C w A l.length l) (hc : l.length ≤ c) (hb : bnd l = true) :
    Calls Try.prog 146 #[.agg #[.int .i64 d, .int .i64 n, .slice A l.length c]] w fun e w' => e = .returned (.agg #[.int .i64 (co l eps).1, .int .i64 (co l eps).2]) ∧ Below w.heap.size w w' := by
  have HR := Aside0.mk hr
  have hll := (bnd_iff.1 hb).1
  have HS := Aside0.mk (Sep.refl w)
  clear hr hb
  go_enter Try.func146, Try.ntmps146
  go_wp2_with (first | ((with_reducible refine gate_dst (N := 1) rfl ?_); refine bxL 24 #[.int .i64 d, .int .i64 n, .slice A l.length c] HS ?_; clear HS; intro g_x w1 hg_x HS) | ((with_reducible refine gate_dst (N := 2) rfl ?_); refine bxL 35 #[(.int .i64 0), (.int .i64 0)] HS ?_; clear HS; intro g_r w1 hg_r HS; have f1_ := HS.out.c 1 0 (v := .int .i64 d) rfl rfl; have f2_ := HS.out.c 1 1 (v := .int .i64 n) rfl rfl; have f3_ := HS.out.c 1 2 (v := .slice A l.length c) rfl rfl) | (go_at_call 103; refine (specValue d n A c l eps _ (HS.out.oldC HR.out) hc hll).mono ?_; rintro e_ w1 ⟨rfl, hb⟩; replace HS := sB HS hb; clear hb f1_ f2_ f3_) | ((with_reducible refine gate_store (t := 35) (p := 2) rfl ?_); refine stL HS 0 0 #[.int .i64 (co l eps).1, .int .i64 (co l eps).2] rfl rfl rfl rfl rfl ?_; clear HS; intro w1 HS))
  refine bodyPost_ret (results_cell_row rfl _ _ g_r 35 #[.int .i64 (co l eps).1, .int .i64 (co l eps).2] (0, 0) _ rfl (HS.out.at (i := 0) rfl) Try.underlying35 rfl (by kernel_rfl)) rfl ?_
  exact ⟨rfl, HS.out.below⟩
end Go.Proofs.Ytaheikponfmdiaa.H


