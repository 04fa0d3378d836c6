/- ValueAtShuffle: what the program and the reference return. Conditions: the bounds that stand in each statement. -/
import Derived.Test.YtaheikponfmdiaaKAtQ
import Derived.Test.YtaheikponfmdiaaKAtI
namespace Go.Proofs.Ytaheikponfmdiaa.M
/-- Two words of a series that are not too long together. -/
def twoW (d n : Nat) (v w : ByteArray) : Bool := isWd d v && (isWd d w && decide (v.size + w.size ≤ n))
def vasR (d n : Int) (l : Ts) (v w : ByteArray) : Rf := if isS d n l = true then if twoW d.toNat n.toNat v w = true then resF (atS d.toNat l v w) else (0, 0, 2) else (0, 0, 1)
end Go.Proofs.Ytaheikponfmdiaa.M
namespace Go.Proofs.Ytaheikponfmdiaa.H
open Go.RowKit Go.Proofs.YtaheikponfmdiaaW.PrintWords Go.Proofs.YtaheikponfmdiaaW.PrintLast Go.Proofs.YtaheikponfmdiaaW.PrintMore Go.Proofs.Ytaheikponfmdiaa.M
attribute [local go_sem] max2_int min2_int max_two min_two max_three min_three max_four min_four
set_option linter.unusedVariables false
set_option linter.unusedSimpArgs false
set_option maxRecDepth 100000
set_option maxHeartbeats 8000000 in
theorem specValueAtShuffle (d n : Int) (A : Option Addr) (c : Nat) (l : Ts) (v u : ByteArray) (w : World) (hr : KT.C w A l.length l) (hc : l.length ≤ c) (hb : bnd l = true) (hv : v.size ≤ 1048576) (hu : u.size ≤ 1048576) :
    Calls Try.prog 20 #[.agg #[.int .i64 d, .int .i64 n, .slice A l.length c], .string v, .string u] w (RetF w (vasR d n l v u)) := by
  have HR := Aside0.mk hr
  have HB := Aside0.mk hb
  have HS := Aside0.mk (Sep.refl w)
  clear hr hb
  unfold vasR
  cases h : isS d n l with
  | false =>
    go_enter Try.func20, Try.ntmps20
    go_wp2_with (first | ((with_reducible refine gate_dst (N := 3) rfl ?_); refine bxL 24 #[.int .i64 d, .int .i64 n, .slice A l.length c] HS ?_; clear HS; intro g_x w1 hg_x HS) | ((with_reducible refine gate_dst (N := 6) rfl ?_); refine bxL 35 #[(.int .i64 0), (.int .i64 0)] HS ?_; clear HS; intro g_r w1 hg_r HS; have f1_ := HS.out.c 1 0 (v := .int .i64 d) rfl rfl; have f2_ := HS.out.c 1 1 (v := .int .i64 n) rfl rfl; have f3_ := HS.out.c 1 2 (v := .slice A l.length c) rfl rfl) | (go_at_call 94; refine (specIs d n A c l _ (HS.out.oldC HR.out) hc HB.out).mono ?_; rintro e_ w1 ⟨rfl, hb⟩; replace HS := sB HS hb; clear hb f1_ f2_ f3_) | ((with_reducible refine gate_store (t := 35) (p := 6) rfl ?_); refine stL HS 0 0 #[(.int .i64 0), (.int .i64 0)] rfl rfl rfl rfl rfl ?_; clear HS; intro w1 HS))
    refine bodyPost_ret (results_cell_tmp_row rfl _ _ g_r 35 #[(.int .i64 0), (.int .i64 0)] (0, 0) _ rfl (HS.out.at (i := 0) rfl) Try.underlying35 rfl (by kernel_rfl)) rfl ?_
    exact ⟨rfl, HS.out.below⟩
  | true =>
    have HX := Aside0.mk (isS_t h)
    obtain ⟨d, n, rfl, rfl, hd1, hd3, hn1, hn5⟩ := lev_nat (isS_l h)
    rw [Int.toNat_natCast, Int.toNat_natCast] at HX
    rw [if_pos rfl, Int.toNat_natCast, Int.toNat_natCast]
    unfold twoW
    cases h1 : isWd d v with
    | false =>
      go_enter Try.func20, Try.ntmps20
      go_wp2_with (first | ((with_reducible refine gate_dst (N := 3) rfl ?_); refine bxL 24 #[.int .i64 (d : Int), .int .i64 (n : Int), .slice A l.length c] HS ?_; clear HS; intro g_x w1 hg_x HS) | ((with_reducible refine gate_dst (N := 6) rfl ?_); refine bxL 35 #[(.int .i64 0), (.int .i64 0)] HS ?_; clear HS; intro g_r w1 hg_r HS; have f1_ := HS.out.c 1 0 (v := .int .i64 (d : Int)) rfl rfl; have f2_ := HS.out.c 1 1 (v := .int .i64 (n : Int)) rfl rfl; have f3_ := HS.out.c 1 2 (v := .slice A l.length c) rfl rfl) | (go_at_call 94; refine (specIs d n A c l _ (HS.out.oldC HR.out) hc HB.out).mono ?_; rintro e_ w1 ⟨rfl, hb⟩; replace HS := sB HS hb; clear hb f1_ f2_ f3_; have f1_ := HS.out.c 1 0 (v := .int .i64 (d : Int)) rfl rfl) | (go_at_call 81; refine (specWord d (by omega) v (by omega) _).mono ?_; rintro e_ w1 ⟨rfl, hb⟩; replace HS := sB HS hb; clear hb f1_) | ((with_reducible refine gate_store (t := 35) (p := 6) rfl ?_); refine stL HS 0 0 #[(.int .i64 0), (.int .i64 0)] rfl rfl rfl rfl rfl ?_; clear HS; intro w1 HS))
      refine bodyPost_ret (results_cell_tmp_row rfl _ _ g_r 35 #[(.int .i64 0), (.int .i64 0)] (0, 0) _ rfl (HS.out.at (i := 0) rfl) Try.underlying35 rfl (by kernel_rfl)) rfl ?_
      exact ⟨rfl, HS.out.below⟩
    | true =>
      cases h2 : isWd d u with
      | false =>
        go_enter Try.func20, Try.ntmps20
        have tk1_ : True := trivial
        go_wp2_with (first | ((with_reducible refine gate_dst (N := 3) rfl ?_); refine bxL 24 #[.int .i64 (d : Int), .int .i64 (n : Int), .slice A l.length c] HS ?_; clear HS; intro g_x w1 hg_x HS) | ((with_reducible refine gate_dst (N := 6) rfl ?_); refine bxL 35 #[(.int .i64 0), (.int .i64 0)] HS ?_; clear HS; intro g_r w1 hg_r HS; have f1_ := HS.out.c 1 0 (v := .int .i64 (d : Int)) rfl rfl; have f2_ := HS.out.c 1 1 (v := .int .i64 (n : Int)) rfl rfl; have f3_ := HS.out.c 1 2 (v := .slice A l.length c) rfl rfl) | (go_at_call 94; refine (specIs d n A c l _ (HS.out.oldC HR.out) hc HB.out).mono ?_; rintro e_ w1 ⟨rfl, hb⟩; replace HS := sB HS hb; clear hb f1_ f2_ f3_; have f1_ := HS.out.c 1 0 (v := .int .i64 (d : Int)) rfl rfl) | (go_at_call 81; clear tk1_; refine (specWord d (by omega) v (by omega) _).mono ?_; rintro e_ w1 ⟨rfl, hb⟩; replace HS := sB HS hb; clear hb f1_; have f1_ := HS.out.c 1 0 (v := .int .i64 (d : Int)) rfl rfl) | (go_at_call 81; refine (specWord d (by omega) u (by omega) _).mono ?_; rintro e_ w1 ⟨rfl, hb⟩; replace HS := sB HS hb; clear hb f1_) | ((with_reducible refine gate_store (t := 35) (p := 6) rfl ?_); refine stL HS 0 0 #[(.int .i64 0), (.int .i64 0)] rfl rfl rfl rfl rfl ?_; clear HS; intro w1 HS))
        refine bodyPost_ret (results_cell_tmp_row rfl _ _ g_r 35 #[(.int .i64 0), (.int .i64 0)] (0, 0) _ rfl (HS.out.at (i := 0) rfl) Try.underlying35 rfl (by kernel_rfl)) rfl ?_
        exact ⟨rfl, HS.out.below⟩
      | true =>
        rw [Bool.true_and, Bool.true_and]
        by_cases h3 : v.size + u.size ≤ n
        · rw [if_pos (by simpa using h3)]
          have hgt : ¬ ((n : Int) < (v.size : Int) + (u.size : Int)) := by omega
          have HP := Aside0.mk (fun X k => specAtQ d n hd3 hn5 A c l v u X k hc HX.out (by omega))
          obtain ⟨o, ho⟩ : ∃ o, o = atS d l v u := ⟨_, rfl⟩
          rw [← ho] at HP
          rw [← ho]
          clear ho
          cases o with
          | none =>
            go_enter Try.func20, Try.ntmps20
            have tk2_ : True := trivial
            go_wp2_with (first | ((with_reducible refine gate_dst (N := 3) rfl ?_); refine bxL 24 #[.int .i64 (d : Int), .int .i64 (n : Int), .slice A l.length c] HS ?_; clear HS; intro g_x w1 hg_x HS) | ((with_reducible refine gate_dst (N := 6) rfl ?_); refine bxL 35 #[(.int .i64 0), (.int .i64 0)] HS ?_; clear HS; intro g_r w1 hg_r HS; have f1_ := HS.out.c 1 0 (v := .int .i64 (d : Int)) rfl rfl; have f2_ := HS.out.c 1 1 (v := .int .i64 (n : Int)) rfl rfl; have f3_ := HS.out.c 1 2 (v := .slice A l.length c) rfl rfl) | (go_at_call 94; refine (specIs d n A c l _ (HS.out.oldC HR.out) hc HB.out).mono ?_; rintro e_ w1 ⟨rfl, hb⟩; replace HS := sB HS hb; clear hb f1_ f2_ f3_; have f1_ := HS.out.c 1 0 (v := .int .i64 (d : Int)) rfl rfl) | (go_at_call 81; clear tk2_; refine (specWord d (by omega) v (by omega) _).mono ?_; rintro e_ w1 ⟨rfl, hb⟩; replace HS := sB HS hb; clear hb f1_; have f1_ := HS.out.c 1 0 (v := .int .i64 (d : Int)) rfl rfl) | (go_at_call 81; refine (specWord d (by omega) u (by omega) _).mono ?_; rintro e_ w1 ⟨rfl, hb⟩; replace HS := sB HS hb; clear hb f1_; have f1_ := HS.out.c 1 1 (v := .int .i64 (n : Int)) rfl rfl; have f2_ := HS.out.c 1 0 (v := .int .i64 (d : Int)) rfl rfl; have f3_ := HS.out.c 1 2 (v := .slice A l.length c) rfl rfl) | (go_at_call 96; refine (HP.out _ (HS.out.oldC HR.out)).mono ?_; rintro e_ w1 ⟨rfl, hb⟩; replace HS := sB HS hb; clear hb f1_ f2_ f3_) | (go_at_call 95; refine (specToNo 0 0 _).mono ?_; rintro e_ w1 ⟨rfl, hb⟩; replace HS := sB HS hb; clear hb) | ((with_reducible refine gate_store (t := 35) (p := 6) rfl ?_); refine stL HS 0 0 #[.int .i64 0, .int .i64 0] rfl rfl rfl rfl rfl ?_; clear HS; intro w1 HS))
            refine bodyPost_ret (results_cell_tmp_row rfl _ _ g_r 35 #[.int .i64 0, .int .i64 0] (0, 0) _ rfl (HS.out.at (i := 0) rfl) Try.underlying35 rfl (by kernel_rfl)) rfl ?_
            exact ⟨rfl, HS.out.below⟩
          | some z =>
            go_enter Try.func20, Try.ntmps20
            have tk3_ : True := trivial
            go_wp2_with (first | ((with_reducible refine gate_dst (N := 3) rfl ?_); refine bxL 24 #[.int .i64 (d : Int), .int .i64 (n : Int), .slice A l.length c] HS ?_; clear HS; intro g_x w1 hg_x HS) | ((with_reducible refine gate_dst (N := 6) rfl ?_); refine bxL 35 #[(.int .i64 0), (.int .i64 0)] HS ?_; clear HS; intro g_r w1 hg_r HS; have f1_ := HS.out.c 1 0 (v := .int .i64 (d : Int)) rfl rfl; have f2_ := HS.out.c 1 1 (v := .int .i64 (n : Int)) rfl rfl; have f3_ := HS.out.c 1 2 (v := .slice A l.length c) rfl rfl) | (go_at_call 94; refine (specIs d n A c l _ (HS.out.oldC HR.out) hc HB.out).mono ?_; rintro e_ w1 ⟨rfl, hb⟩; replace HS := sB HS hb; clear hb f1_ f2_ f3_; have f1_ := HS.out.c 1 0 (v := .int .i64 (d : Int)) rfl rfl) | (go_at_call 81; clear tk3_; refine (specWord d (by omega) v (by omega) _).mono ?_; rintro e_ w1 ⟨rfl, hb⟩; replace HS := sB HS hb; clear hb f1_; have f1_ := HS.out.c 1 0 (v := .int .i64 (d : Int)) rfl rfl) | (go_at_call 81; refine (specWord d (by omega) u (by omega) _).mono ?_; rintro e_ w1 ⟨rfl, hb⟩; replace HS := sB HS hb; clear hb f1_; have f1_ := HS.out.c 1 1 (v := .int .i64 (n : Int)) rfl rfl; have f2_ := HS.out.c 1 0 (v := .int .i64 (d : Int)) rfl rfl; have f3_ := HS.out.c 1 2 (v := .slice A l.length c) rfl rfl) | (go_at_call 96; refine (HP.out _ (HS.out.oldC HR.out)).mono ?_; rintro e_ w1 ⟨rfl, hb⟩; replace HS := sB HS hb; clear hb f1_ f2_ f3_) | (go_at_call 95; refine (specToYes z.1 z.2 _).mono ?_; rintro e_ w1 ⟨rfl, hb⟩; replace HS := sB HS hb; clear hb) | ((with_reducible refine gate_store (t := 35) (p := 6) rfl ?_); refine stL HS 0 0 #[.int .i64 z.1, .int .i64 z.2] rfl rfl rfl rfl rfl ?_; clear HS; intro w1 HS))
            refine bodyPost_ret (results_cell_tmp_row rfl _ _ g_r 35 #[.int .i64 z.1, .int .i64 z.2] (0, 0) _ rfl (HS.out.at (i := 0) rfl) Try.underlying35 rfl (by kernel_rfl)) rfl ?_
            exact ⟨rfl, HS.out.below⟩
        · rw [if_neg (by simpa using h3)]
          have hgt : ((n : Int) < (v.size : Int) + (u.size : Int)) := by omega
          go_enter Try.func20, Try.ntmps20
          have tk4_ : True := trivial
          go_wp2_with (first | ((with_reducible refine gate_dst (N := 3) rfl ?_); refine bxL 24 #[.int .i64 (d : Int), .int .i64 (n : Int), .slice A l.length c] HS ?_; clear HS; intro g_x w1 hg_x HS) | ((with_reducible refine gate_dst (N := 6) rfl ?_); refine bxL 35 #[(.int .i64 0), (.int .i64 0)] HS ?_; clear HS; intro g_r w1 hg_r HS; have f1_ := HS.out.c 1 0 (v := .int .i64 (d : Int)) rfl rfl; have f2_ := HS.out.c 1 1 (v := .int .i64 (n : Int)) rfl rfl; have f3_ := HS.out.c 1 2 (v := .slice A l.length c) rfl rfl) | (go_at_call 94; refine (specIs d n A c l _ (HS.out.oldC HR.out) hc HB.out).mono ?_; rintro e_ w1 ⟨rfl, hb⟩; replace HS := sB HS hb; clear hb f1_ f2_ f3_; have f1_ := HS.out.c 1 0 (v := .int .i64 (d : Int)) rfl rfl) | (go_at_call 81; clear tk4_; refine (specWord d (by omega) v (by omega) _).mono ?_; rintro e_ w1 ⟨rfl, hb⟩; replace HS := sB HS hb; clear hb f1_; have f1_ := HS.out.c 1 0 (v := .int .i64 (d : Int)) rfl rfl) | (go_at_call 81; refine (specWord d (by omega) u (by omega) _).mono ?_; rintro e_ w1 ⟨rfl, hb⟩; replace HS := sB HS hb; clear hb f1_; have f1_ := HS.out.c 1 1 (v := .int .i64 (n : Int)) rfl rfl) | ((with_reducible refine gate_store (t := 35) (p := 6) rfl ?_); refine stL HS 0 0 #[(.int .i64 0), (.int .i64 0)] rfl rfl rfl rfl rfl ?_; clear HS f1_; intro w1 HS))
          refine bodyPost_ret (results_cell_tmp_row rfl _ _ g_r 35 #[(.int .i64 0), (.int .i64 0)] (0, 0) _ rfl (HS.out.at (i := 0) rfl) Try.underlying35 rfl (by kernel_rfl)) rfl ?_
          exact ⟨rfl, HS.out.below⟩
set_option maxHeartbeats 8000000 in
theorem implValueAtShuffle (d n : Int) (A : Option Addr) (c : Nat) (l : Ts) (v u : ByteArray) (w : World) (hr : KT.C w A l.length l) (hc : l.length ≤ c) (hb : bnd l = true) (hv : v.size ≤ 1048576) (hu : u.size ≤ 1048576) :
    Calls Try.prog 22 #[.agg #[.int .i64 d, .int .i64 n, .slice A l.length c], .string v, .string u] w (RetF w (vasR d n l v u)) := by
  have HR := Aside0.mk hr
  have HB := Aside0.mk hb
  have HS := Aside0.mk (Sep.refl w)
  clear hr hb
  unfold vasR
  cases h : isS d n l with
  | false =>
    go_enter Try.func22, Try.ntmps22
    go_wp2_with (first | ((with_reducible refine gate_dst (N := 3) rfl ?_); refine bxL 24 #[.int .i64 d, .int .i64 n, .slice A l.length c] HS ?_; clear HS; intro g_x w1 hg_x HS) | ((with_reducible refine gate_dst (N := 6) rfl ?_); refine bxL 35 #[(.int .i64 0), (.int .i64 0)] HS ?_; clear HS; intro g_r w1 hg_r HS; have f1_ := HS.out.c 1 0 (v := .int .i64 d) rfl rfl; have f2_ := HS.out.c 1 1 (v := .int .i64 n) rfl rfl; have f3_ := HS.out.c 1 2 (v := .slice A l.length c) rfl rfl) | (go_at_call 98; refine (implIs d n A c l _ (HS.out.oldC HR.out) hc HB.out).mono ?_; rintro e_ w1 ⟨rfl, hb⟩; replace HS := sB HS hb; clear hb f1_ f2_ f3_) | ((with_reducible refine gate_store (t := 35) (p := 6) rfl ?_); refine stL HS 0 0 #[(.int .i64 0), (.int .i64 0)] rfl rfl rfl rfl rfl ?_; clear HS; intro w1 HS))
    refine bodyPost_ret (results_cell_tmp_row rfl _ _ g_r 35 #[(.int .i64 0), (.int .i64 0)] (0, 0) _ rfl (HS.out.at (i := 0) rfl) Try.underlying35 rfl (by kernel_rfl)) rfl ?_
    exact ⟨rfl, HS.out.below⟩
  | true =>
    have HX := Aside0.mk (isS_t h)
    have HL := Aside0.mk (isS_l h)
    obtain ⟨d, n, rfl, rfl, hd1, hd3, hn1, hn5⟩ := lev_nat (isS_l h)
    rw [Int.toNat_natCast, Int.toNat_natCast] at HX
    rw [if_pos rfl, Int.toNat_natCast, Int.toNat_natCast]
    by_cases h1 : isWd d v = true ∧ v.size ≤ n
    · have e1 : (isWd d v && decide (v.size ≤ n)) = true := by rw [h1.1, Bool.true_and]; exact decide_eq_true h1.2
      have hq : ((n : Int) - (v.size : Int)) = ((n - v.size : Nat) : Int) := by omega
      by_cases h2 : isWd d u = true ∧ u.size ≤ n - v.size
      · have e2 : (isWd d u && decide (u.size ≤ n - v.size)) = true := by rw [h2.1, Bool.true_and]; exact decide_eq_true h2.2
        have HW1 := Aside0.mk (fun X => e1 ▸ implWord d n (by omega) v (by omega) X)
        have HW2 := Aside0.mk (fun X => e2 ▸ implWord d (n - v.size) (by omega) u (by omega) X)
        rw [if_pos (show twoW d n v u = true by unfold twoW; rw [h1.1, h2.1]; simp; omega)]
        have HP := Aside0.mk (fun g v1 X k1 k2 => implAtS g v1 d n l v u X HL.out HX.out k1 k2 (by omega))
        obtain ⟨o, ho⟩ : ∃ o, o = atS d l v u := ⟨_, rfl⟩
        rw [← ho] at HP
        rw [← ho]
        clear ho e1 e2
        cases o with
        | none =>
          go_enter Try.func22, Try.ntmps22
          have tk5_ : True := trivial
          go_wp2_with (first | ((with_reducible refine gate_dst (N := 3) rfl ?_); refine bxL 24 #[.int .i64 (d : Int), .int .i64 (n : Int), .slice A l.length c] HS ?_; clear HS; intro g_x w1 hg_x HS) | ((with_reducible refine gate_dst (N := 6) rfl ?_); refine bxL 35 #[(.int .i64 0), (.int .i64 0)] HS ?_; clear HS; intro g_r w1 hg_r HS; have f1_ := HS.out.c 1 0 (v := .int .i64 (d : Int)) rfl rfl; have f2_ := HS.out.c 1 1 (v := .int .i64 (n : Int)) rfl rfl; have f3_ := HS.out.c 1 2 (v := .slice A l.length c) rfl rfl) | (go_at_call 98; refine (implIs d n A c l _ (HS.out.oldC HR.out) hc HB.out).mono ?_; rintro e_ w1 ⟨rfl, hb⟩; replace HS := sB HS hb; clear hb f1_ f2_ f3_; have f1_ := HS.out.c 1 0 (v := .int .i64 (d : Int)) rfl rfl; have f2_ := HS.out.c 1 1 (v := .int .i64 (n : Int)) rfl rfl) | (go_at_call 85; clear tk5_; refine (HW1.out _).mono ?_; rintro e_ w1 ⟨rfl, hb⟩; replace HS := sB HS hb; clear hb f1_ f2_; have f1_ := HS.out.c 1 0 (v := .int .i64 (d : Int)) rfl rfl; have f2_ := HS.out.c 1 1 (v := .int .i64 (n : Int)) rfl rfl) | (go_at_call 85; refine (HW2.out _).mono ?_; rintro e_ w1 ⟨rfl, hb⟩; replace HS := sB HS hb; clear hb f1_ f2_; have f1_ := HS.out.c 1 0 (v := .int .i64 (d : Int)) rfl rfl; have f2_ := HS.out.c 1 1 (v := .int .i64 (n : Int)) rfl rfl; have f3_ := HS.out.c 1 2 (v := .slice A l.length c) rfl rfl) | (go_at_call 100; refine (implOpen d n A c l _ HL.out (HS.out.oldC HR.out) HX.out).mono ?_; rintro e_ w1 ⟨g1, v1, rfl, hs⟩; replace HS := sN2 HS hs; clear hs f1_ f2_ f3_) | (go_at_call 101; refine (HP.out g1 v1 _ (HS.out.at (i := 0) rfl) (HS.out.at (i := 1) rfl)).mono ?_; rintro e_ w1 ⟨p1, p2, hp, rfl, hb⟩; replace HS := sB HS hb; clear hb) | (go_at_call 99; refine (implToNo p1 p2 _).mono ?_; rintro e_ w1 ⟨rfl, hb⟩; replace HS := sB HS hb; clear hb) | ((with_reducible refine gate_store (t := 35) (p := 6) rfl ?_); refine stL HS 2 0 #[.int .i64 0, .int .i64 0] rfl rfl rfl rfl rfl ?_; clear HS; intro w1 HS))
          refine bodyPost_ret (results_cell_tmp_row rfl _ _ g_r 35 #[.int .i64 0, .int .i64 0] (0, 0) _ rfl (HS.out.at (i := 2) rfl) Try.underlying35 rfl (by kernel_rfl)) rfl ?_
          exact ⟨rfl, HS.out.below⟩
        | some z =>
          go_enter Try.func22, Try.ntmps22
          have tk6_ : True := trivial
          go_wp2_with (first | ((with_reducible refine gate_dst (N := 3) rfl ?_); refine bxL 24 #[.int .i64 (d : Int), .int .i64 (n : Int), .slice A l.length c] HS ?_; clear HS; intro g_x w1 hg_x HS) | ((with_reducible refine gate_dst (N := 6) rfl ?_); refine bxL 35 #[(.int .i64 0), (.int .i64 0)] HS ?_; clear HS; intro g_r w1 hg_r HS; have f1_ := HS.out.c 1 0 (v := .int .i64 (d : Int)) rfl rfl; have f2_ := HS.out.c 1 1 (v := .int .i64 (n : Int)) rfl rfl; have f3_ := HS.out.c 1 2 (v := .slice A l.length c) rfl rfl) | (go_at_call 98; refine (implIs d n A c l _ (HS.out.oldC HR.out) hc HB.out).mono ?_; rintro e_ w1 ⟨rfl, hb⟩; replace HS := sB HS hb; clear hb f1_ f2_ f3_; have f1_ := HS.out.c 1 0 (v := .int .i64 (d : Int)) rfl rfl; have f2_ := HS.out.c 1 1 (v := .int .i64 (n : Int)) rfl rfl) | (go_at_call 85; clear tk6_; refine (HW1.out _).mono ?_; rintro e_ w1 ⟨rfl, hb⟩; replace HS := sB HS hb; clear hb f1_ f2_; have f1_ := HS.out.c 1 0 (v := .int .i64 (d : Int)) rfl rfl; have f2_ := HS.out.c 1 1 (v := .int .i64 (n : Int)) rfl rfl) | (go_at_call 85; refine (HW2.out _).mono ?_; rintro e_ w1 ⟨rfl, hb⟩; replace HS := sB HS hb; clear hb f1_ f2_; have f1_ := HS.out.c 1 0 (v := .int .i64 (d : Int)) rfl rfl; have f2_ := HS.out.c 1 1 (v := .int .i64 (n : Int)) rfl rfl; have f3_ := HS.out.c 1 2 (v := .slice A l.length c) rfl rfl) | (go_at_call 100; refine (implOpen d n A c l _ HL.out (HS.out.oldC HR.out) HX.out).mono ?_; rintro e_ w1 ⟨g1, v1, rfl, hs⟩; replace HS := sN2 HS hs; clear hs f1_ f2_ f3_) | (go_at_call 101; refine (HP.out g1 v1 _ (HS.out.at (i := 0) rfl) (HS.out.at (i := 1) rfl)).mono ?_; rintro e_ w1 ⟨p1, p2, hp, rfl, hb⟩; replace HS := sB HS hb; clear hb; obtain rfl := hp z rfl) | (go_at_call 99; refine (implToYes p1 p2 _).mono ?_; rintro e_ w1 ⟨rfl, hb⟩; replace HS := sB HS hb; clear hb) | ((with_reducible refine gate_store (t := 35) (p := 6) rfl ?_); refine stL HS 2 0 #[.int .i64 p1, .int .i64 p2] rfl rfl rfl rfl rfl ?_; clear HS; intro w1 HS))
          refine bodyPost_ret (results_cell_tmp_row rfl _ _ g_r 35 #[.int .i64 p1, .int .i64 p2] (0, 0) _ rfl (HS.out.at (i := 2) rfl) Try.underlying35 rfl (by kernel_rfl)) rfl ?_
          exact ⟨rfl, HS.out.below⟩
      · have e2 : (isWd d u && decide (u.size ≤ n - v.size)) = false := by
          rw [Bool.and_eq_false_iff]
          by_cases h5 : isWd d u = true
          · exact .inr (decide_eq_false (fun h => h2 ⟨h5, h⟩))
          · exact .inl (by simpa using h5)
        have HW1 := Aside0.mk (fun X => e1 ▸ implWord d n (by omega) v (by omega) X)
        have HW2 := Aside0.mk (fun X => e2 ▸ implWord d (n - v.size) (by omega) u (by omega) X)
        rw [if_neg (show ¬ twoW d n v u = true by unfold twoW; intro h; simp at h; exact h2 ⟨h.2.1, by omega⟩)]
        clear e1 e2
        go_enter Try.func22, Try.ntmps22
        have tk7_ : True := trivial
        go_wp2_with (first | ((with_reducible refine gate_dst (N := 3) rfl ?_); refine bxL 24 #[.int .i64 (d : Int), .int .i64 (n : Int), .slice A l.length c] HS ?_; clear HS; intro g_x w1 hg_x HS) | ((with_reducible refine gate_dst (N := 6) rfl ?_); refine bxL 35 #[(.int .i64 0), (.int .i64 0)] HS ?_; clear HS; intro g_r w1 hg_r HS; have f1_ := HS.out.c 1 0 (v := .int .i64 (d : Int)) rfl rfl; have f2_ := HS.out.c 1 1 (v := .int .i64 (n : Int)) rfl rfl; have f3_ := HS.out.c 1 2 (v := .slice A l.length c) rfl rfl) | (go_at_call 98; refine (implIs d n A c l _ (HS.out.oldC HR.out) hc HB.out).mono ?_; rintro e_ w1 ⟨rfl, hb⟩; replace HS := sB HS hb; clear hb f1_ f2_ f3_; have f1_ := HS.out.c 1 0 (v := .int .i64 (d : Int)) rfl rfl; have f2_ := HS.out.c 1 1 (v := .int .i64 (n : Int)) rfl rfl) | (go_at_call 85; clear tk7_; refine (HW1.out _).mono ?_; rintro e_ w1 ⟨rfl, hb⟩; replace HS := sB HS hb; clear hb f1_ f2_; have f1_ := HS.out.c 1 0 (v := .int .i64 (d : Int)) rfl rfl; have f2_ := HS.out.c 1 1 (v := .int .i64 (n : Int)) rfl rfl) | (go_at_call 85; refine (HW2.out _).mono ?_; rintro e_ w1 ⟨rfl, hb⟩; replace HS := sB HS hb; clear hb f1_ f2_) | ((with_reducible refine gate_store (t := 35) (p := 6) rfl ?_); refine stL HS 0 0 #[(.int .i64 0), (.int .i64 0)] rfl rfl rfl rfl rfl ?_; clear HS; intro w1 HS))
        refine bodyPost_ret (results_cell_tmp_row rfl _ _ g_r 35 #[(.int .i64 0), (.int .i64 0)] (0, 0) _ rfl (HS.out.at (i := 0) rfl) Try.underlying35 rfl (by kernel_rfl)) rfl ?_
        exact ⟨rfl, HS.out.below⟩
    · have e1 : (isWd d v && decide (v.size ≤ n)) = false := by
        rw [Bool.and_eq_false_iff]
        by_cases h5 : isWd d v = true
        · exact .inr (decide_eq_false (fun h => h1 ⟨h5, h⟩))
        · exact .inl (by simpa using h5)
      have HW1 := Aside0.mk (fun X => e1 ▸ implWord d n (by omega) v (by omega) X)
      rw [if_neg (show ¬ twoW d n v u = true by unfold twoW; intro h; simp at h; exact h1 ⟨h.1, by omega⟩)]
      clear e1
      go_enter Try.func22, Try.ntmps22
      go_wp2_with (first | ((with_reducible refine gate_dst (N := 3) rfl ?_); refine bxL 24 #[.int .i64 (d : Int), .int .i64 (n : Int), .slice A l.length c] HS ?_; clear HS; intro g_x w1 hg_x HS) | ((with_reducible refine gate_dst (N := 6) rfl ?_); refine bxL 35 #[(.int .i64 0), (.int .i64 0)] HS ?_; clear HS; intro g_r w1 hg_r HS; have f1_ := HS.out.c 1 0 (v := .int .i64 (d : Int)) rfl rfl; have f2_ := HS.out.c 1 1 (v := .int .i64 (n : Int)) rfl rfl; have f3_ := HS.out.c 1 2 (v := .slice A l.length c) rfl rfl) | (go_at_call 98; refine (implIs d n A c l _ (HS.out.oldC HR.out) hc HB.out).mono ?_; rintro e_ w1 ⟨rfl, hb⟩; replace HS := sB HS hb; clear hb f1_ f2_ f3_; have f1_ := HS.out.c 1 0 (v := .int .i64 (d : Int)) rfl rfl; have f2_ := HS.out.c 1 1 (v := .int .i64 (n : Int)) rfl rfl) | (go_at_call 85; refine (HW1.out _).mono ?_; rintro e_ w1 ⟨rfl, hb⟩; replace HS := sB HS hb; clear hb f1_ f2_) | ((with_reducible refine gate_store (t := 35) (p := 6) rfl ?_); refine stL HS 0 0 #[(.int .i64 0), (.int .i64 0)] rfl rfl rfl rfl rfl ?_; clear HS; intro w1 HS))
      refine bodyPost_ret (results_cell_tmp_row rfl _ _ g_r 35 #[(.int .i64 0), (.int .i64 0)] (0, 0) _ rfl (HS.out.at (i := 0) rfl) Try.underlying35 rfl (by kernel_rfl)) rfl ?_
      exact ⟨rfl, HS.out.below⟩
end Go.Proofs.Ytaheikponfmdiaa.H


