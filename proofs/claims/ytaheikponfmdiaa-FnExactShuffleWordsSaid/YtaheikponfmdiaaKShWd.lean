/- Shuffles of two words: what the program and the reference return. Conditions: the bounds that stand in each statement. -/
import Derived.Test.YtaheikponfmdiaaKShufIF
import Derived.Test.YtaheikponfmdiaaKTold
namespace Go.Proofs.Ytaheikponfmdiaa.M
/-- Two words for a series' letters, none longer than its level. -/
def okW2 (d n : Int) (v w : ByteArray) : Bool := lev d n && (isWd d.toNat v && (isWd d.toNat w && (decide (v.size ≤ n.toNat) && decide (w.size ≤ n.toNat))))
def swR (d n : Int) (v w : ByteArray) : Rs := if okW2 d n v w = true then (d, n, shWT d.toNat n.toNat v w, 0) else noS 2
theorem sw_len {d n : Int} {v w : ByteArray} : (swR d n v w).2.2.1.length ≤ 1048576 := by
  unfold swR
  split
  · rename_i h
    have hl : lev d n = true := by unfold okW2 at h; rw [Bool.and_eq_true] at h; exact h.1
    have := lev_iff.1 hl
    exact shWT_len (by omega) (by omega) v w
  · show (0 : Nat) ≤ _; decide
theorem ts_one {d n : Nat} {v : ByteArray} (h1 : isWd d v = true) (h2 : v.size ≤ n) : isTs d n [(v, 1, 1)] = true :=
  isTs_iff.2 ⟨fun t ht => by rw [List.mem_singleton.1 ht]; exact isTm_mk h1 h2 (by decide) (by decide), List.pairwise_singleton _ _⟩
end Go.Proofs.Ytaheikponfmdiaa.M
namespace Go.Proofs.Ytaheikponfmdiaa.H
open Go.RowKit Go.Proofs.YtaheikponfmdiaaW.PrintWords Go.Proofs.YtaheikponfmdiaaW.PrintLast Go.Proofs.YtaheikponfmdiaaW.PrintMore Go.Proofs.Ytaheikponfmdiaa.M
attribute [local go_sem] max2_int min2_int max_two min_two max_three min_three max_four min_four
set_option linter.unusedVariables false
set_option linter.unusedSimpArgs false
set_option maxRecDepth 100000
set_option maxHeartbeats 8000000 in
theorem specShuffleWords (d n : Int) (v u : ByteArray) (w : World) (hv : v.size ≤ 1048576) (hu : u.size ≤ 1048576) :
    Calls Try.prog 14 #[.int .i64 d, .int .i64 n, .string v, .string u] w (RetS w (swR d n v u)) := by
  have HS := Aside0.mk (Sep.refl w)
  unfold swR okW2
  cases h : lev d n with
  | false =>
    go_enter Try.func14, Try.ntmps14
    go_wp2_with (first | ((with_reducible refine gate_dst (N := 8) rfl ?_); refine bxL 24 #[(.int .i64 0), (.int .i64 0), (.slice none 0 0)] HS ?_; clear HS; intro g_r w1 hg_r HS) | (go_at_call 80; refine (specSizes d n _).mono ?_; rintro e_ w1 ⟨rfl, hb⟩; replace HS := sB HS hb; clear hb) | ((with_reducible refine gate_store (t := 24) (p := 8) rfl ?_); refine stL HS 0 0 #[(.int .i64 0), (.int .i64 0), (.slice none 0 0)] rfl rfl rfl rfl rfl ?_; clear HS; intro w1 HS))
    refine bodyPost_ret (results_cell_tmp_row rfl _ _ g_r 24 #[(.int .i64 0), (.int .i64 0), (.slice none 0 0)] (0, 0) _ rfl (HS.out.at (i := 0) rfl) Try.underlying24 rfl (by kernel_rfl)) rfl ?_
    exact ⟨none, 0, rfl, nilS (HS.out.sel [] (by decide))⟩
  | true =>
    obtain ⟨d, n, rfl, rfl, hd1, hd3, hn1, hn5⟩ := lev_nat h
    rw [Int.toNat_natCast, Int.toNat_natCast, Bool.true_and]
    cases h1 : isWd d v with
    | false =>
      go_enter Try.func14, Try.ntmps14
      go_wp2_with (first | ((with_reducible refine gate_dst (N := 8) rfl ?_); refine bxL 24 #[(.int .i64 0), (.int .i64 0), (.slice none 0 0)] HS ?_; clear HS; intro g_r w1 hg_r HS) | (go_at_call 80; refine (specSizes d n _).mono ?_; rintro e_ w1 ⟨rfl, hb⟩; replace HS := sB HS hb; clear hb) | (go_at_call 81; refine (specWord d (by omega) v (by omega) _).mono ?_; rintro e_ w1 ⟨rfl, hb⟩; replace HS := sB HS hb; clear hb) | ((with_reducible refine gate_store (t := 24) (p := 8) rfl ?_); refine stL HS 0 0 #[(.int .i64 0), (.int .i64 0), (.slice none 0 0)] rfl rfl rfl rfl rfl ?_; clear HS; intro w1 HS))
      refine bodyPost_ret (results_cell_tmp_row rfl _ _ g_r 24 #[(.int .i64 0), (.int .i64 0), (.slice none 0 0)] (0, 0) _ rfl (HS.out.at (i := 0) rfl) Try.underlying24 rfl (by kernel_rfl)) rfl ?_
      exact ⟨none, 0, rfl, nilS (HS.out.sel [] (by decide))⟩
    | true =>
      rw [Bool.true_and]
      cases h2 : isWd d u with
      | false =>
        go_enter Try.func14, Try.ntmps14
        have tk1_ : True := trivial
        go_wp2_with (first | ((with_reducible refine gate_dst (N := 8) rfl ?_); refine bxL 24 #[(.int .i64 0), (.int .i64 0), (.slice none 0 0)] HS ?_; clear HS; intro g_r w1 hg_r HS) | (go_at_call 80; refine (specSizes d n _).mono ?_; rintro e_ w1 ⟨rfl, hb⟩; replace HS := sB HS hb; clear hb) | (go_at_call 81; clear tk1_; refine (specWord d (by omega) v (by omega) _).mono ?_; rintro e_ w1 ⟨rfl, hb⟩; replace HS := sB HS hb; clear hb) | (go_at_call 81; refine (specWord d (by omega) u (by omega) _).mono ?_; rintro e_ w1 ⟨rfl, hb⟩; replace HS := sB HS hb; clear hb) | ((with_reducible refine gate_store (t := 24) (p := 8) rfl ?_); refine stL HS 0 0 #[(.int .i64 0), (.int .i64 0), (.slice none 0 0)] rfl rfl rfl rfl rfl ?_; clear HS; intro w1 HS))
        refine bodyPost_ret (results_cell_tmp_row rfl _ _ g_r 24 #[(.int .i64 0), (.int .i64 0), (.slice none 0 0)] (0, 0) _ rfl (HS.out.at (i := 0) rfl) Try.underlying24 rfl (by kernel_rfl)) rfl ?_
        exact ⟨none, 0, rfl, nilS (HS.out.sel [] (by decide))⟩
      | true =>
        rw [Bool.true_and]
        by_cases h3 : v.size ≤ n
        · have hg3 : ¬ ((n : Int) < (v.size : Int)) := by omega
          by_cases h4 : u.size ≤ n
          · have hg4 : ¬ ((n : Int) < (u.size : Int)) := by omega
            rw [if_pos (by simp [h3, h4])]
            by_cases h5 : n < v.size + u.size
            · have hg5 : ((n : Int) < (v.size : Int) + (u.size : Int)) := by omega
              have HE := Aside0.mk (show shWT d n v u = [] by unfold shWT; rw [if_pos h5])
              clear h3 h4
              go_enter Try.func14, Try.ntmps14
              have tk2_ : True := trivial
              go_wp2_with (first | ((with_reducible refine gate_dst (N := 8) rfl ?_); refine bxL 24 #[(.int .i64 0), (.int .i64 0), (.slice none 0 0)] HS ?_; clear HS; intro g_r w1 hg_r HS) | (go_at_call 80; refine (specSizes d n _).mono ?_; rintro e_ w1 ⟨rfl, hb⟩; replace HS := sB HS hb; clear hb) | (go_at_call 81; clear tk2_; refine (specWord d (by omega) v (by omega) _).mono ?_; rintro e_ w1 ⟨rfl, hb⟩; replace HS := sB HS hb; clear hb) | (go_at_call 81; refine (specWord d (by omega) u (by omega) _).mono ?_; rintro e_ w1 ⟨rfl, hb⟩; replace HS := sB HS hb; clear hb) | ((with_reducible refine gate_dst (N := 44) rfl ?_); refine wpList_stp (fun K hK => ?_); refine stp_lit (KT) rfl 66 (by rfl) HS (xs := ([] : Ts)) (inner := []) (by first | (go_simp; done) | (go_simp; rfl)) (fun W base ok => Reps.none _ _) (by simp) ?_; clear HS; intro A_o c_o w1 HS; refine hK _ _ ?_; clear hK K) | ((with_reducible refine gate_dst (N := 10) rfl ?_); refine bxL 24 #[(.int .i64 0), (.int .i64 0), (.slice none 0 0)] HS ?_; clear HS; intro g_q w1 hg_q HS) | ((with_reducible refine gate_store (t := 24) (p := 10) rfl ?_); refine stL HS 0 0 #[(.int .i64 (d : Int)), (.int .i64 (n : Int)), (.slice A_o (([] : Ts)).length c_o)] rfl rfl rfl rfl rfl ?_; clear HS; intro w1 HS; have f1_ := HS.out.c 0 0 (v := (.int .i64 (d : Int))) rfl rfl; have f2_ := HS.out.c 0 1 (v := (.int .i64 (n : Int))) rfl rfl; have f3_ := HS.out.c 0 2 (v := (.slice A_o (([] : Ts)).length c_o)) rfl rfl) | ((with_reducible refine gate_store (t := 24) (p := 8) rfl ?_); refine stL HS 2 0 #[(.int .i64 (d : Int)), (.int .i64 (n : Int)), (.slice A_o (([] : Ts)).length c_o)] rfl rfl rfl rfl rfl ?_; clear HS f1_ f2_ f3_; intro w1 HS))
              refine bodyPost_ret (results_cell_tmp_row rfl _ _ g_r 24 #[(.int .i64 (d : Int)), (.int .i64 (n : Int)), (.slice A_o (([] : Ts)).length c_o)] (0, 0) _ rfl (HS.out.at (i := 2) rfl) Try.underlying24 rfl (by kernel_rfl)) rfl ?_
              rw [HE.out]
              exact ⟨A_o, c_o, rfl, HS.out.sel [1] (by decide)⟩
            · have hg5 : ¬ ((n : Int) < (v.size : Int) + (u.size : Int)) := by omega
              have HE := Aside0.mk (show shWT d n v u = ((shW d v u).take (shW d v u).length).map (shTm v u) by unfold shWT; rw [if_neg h5, List.take_length])
              have HWD := Aside0.mk (fun X => specShW d v u X hd3 (by omega))
              have HSZ := Aside0.mk (fun (k : Nat) (s : ByteArray) (h : (shW d v u)[k]? = some s) => (shW_mem (d := d) (by omega) (List.mem_of_getElem? h)).1)
              have hul : (shW d v u).length ≤ 6561 := by
                refine Nat.le_trans (List.length_filter_le _ _) ?_
                exact wordsN_le hd3 (by omega)
              obtain ⟨us, hus⟩ : ∃ us, us = shW d v u := ⟨_, rfl⟩
              rw [← hus] at HE HWD HSZ hul
              clear hus h3 h4
              go_enter Try.func14, Try.ntmps14
              have tk3_ : True := trivial
              go_wp2_with (first | ((with_reducible refine gate_dst (N := 8) rfl ?_); refine bxL 24 #[(.int .i64 0), (.int .i64 0), (.slice none 0 0)] HS ?_; clear HS; intro g_r w1 hg_r HS) | (go_at_call 80; refine (specSizes d n _).mono ?_; rintro e_ w1 ⟨rfl, hb⟩; replace HS := sB HS hb; clear hb) | (go_at_call 81; clear tk3_; refine (specWord d (by omega) v (by omega) _).mono ?_; rintro e_ w1 ⟨rfl, hb⟩; replace HS := sB HS hb; clear hb) | (go_at_call 81; refine (specWord d (by omega) u (by omega) _).mono ?_; rintro e_ w1 ⟨rfl, hb⟩; replace HS := sB HS hb; clear hb) | ((with_reducible refine gate_dst (N := 44) rfl ?_); refine wpList_stp (fun K hK => ?_); refine stp_lit (KT) rfl 66 (by rfl) HS (xs := ([] : Ts)) (inner := []) (by first | (go_simp; done) | (go_simp; rfl)) (fun W base ok => Reps.none _ _) (by simp) ?_; clear HS; intro A_o c_o w1 HS; refine hK _ _ ?_; clear hK K) | ((with_reducible refine gate_dst (N := 10) rfl ?_); refine bxL 24 #[(.int .i64 0), (.int .i64 0), (.slice none 0 0)] HS ?_; clear HS; intro g_q w1 hg_q HS) | ((with_reducible refine gate_store (t := 24) (p := 10) rfl ?_); refine stL HS 0 0 #[(.int .i64 (d : Int)), (.int .i64 (n : Int)), (.slice A_o (([] : Ts)).length c_o)] rfl rfl rfl rfl rfl ?_; clear HS; intro w1 HS) | (go_at_call 82; refine (HWD.out _).mono ?_; rintro e_ w1 ⟨B1, b1, rfl, hs⟩; replace HS := sN1 HS hs; clear hs))
              go_loopw [12] (fun x w' => ∃ (i : Nat) (B : Option Addr) (b : Nat) (z : Ts), i ≤ us.length ∧ x = .int .i64 (i : Int) ∧ Aside0 (z = (us.take i).map (shTm v u)) ∧ Aside0 (Mod w w' No [rowS B1 b1 us, bx g_q 24 #[.int .i64 (d : Int), .int .i64 (n : Int), .slice B z.length b], rowT B b z, bx g_r 24 #[(.int .i64 0), (.int .i64 0), (.slice none 0 0)]])) (fun x _ => us.length - (intOf x).toNat)
              case atStart => exact ⟨0, A_o, c_o, [], by omega, rfl, ⟨rfl⟩, HS⟩
              case round =>
                clear HS
                obtain ⟨i, B, b, z, hi, rfl, HZ, HS⟩ := hrel
                by_cases hlt : i < us.length
                · obtain ⟨ad, ea, h_⟩ := str_at (HS.out.reads 0 rfl) i hlt
                  clear h_
                  cases ea
                  obtain ⟨s, hs⟩ : ∃ s, us[i]? = some s := ⟨_, List.getElem?_eq_getElem hlt⟩
                  have HEs := Aside0.mk hs
                  have hss : s.size ≤ 5 := by have := HSZ.out i s hs; omega
                  have hzl : z.length ≤ 6561 := by rw [HZ.out, List.length_map, List.length_take]; omega
                  have HNM := Aside0.mk (fun X => specNum v u s X (by omega) (by omega) (by omega))
                  have HN := Aside0.mk (show (us.take (i + 1)).map (shTm v u) = z ++ [(s, ((shN v u s : Nat) : Int), 1)] by rw [List.take_add_one, hs, List.map_append, HZ.out]; rfl)
                  obtain ⟨m, hm⟩ : ∃ m, m = shN v u s := ⟨_, rfl⟩
                  rw [← hm] at HNM HN
                  clear hs hm
                  go_wp2
                  replace HS := sD HS
                  refine ps (.p 0 (.p 2 (.p 3 (.p 4 (.p 6 (.p 7 (.p 8 (.p 9 (.p 10 (.t 1 (.t 5 (.t 11 (.e 12 (.p 13 (.p 14 (.e 15 (.d 16 (.p 17 (.d 18 .done))))))))))))))))))) (fun w' => w'.cell? ⟨g_q, 2, none⟩ = some (.slice B z.length b) ∧ w'.cell? (ad.add i) = some (.string s)) [16, 18] ⟨HS.out.c 1 2 (v := .slice B z.length b) rfl rfl, HS.out.str 0 rfl HEs.out⟩ (fun hHeld => ?_)
                  repeat (first | ((with_reducible refine gate_p ?_); refine rp rfl rfl ?_) | ((with_reducible refine gate_t ?_); refine rt rfl rfl hHeld ?_))
                  refine run_e rfl (fun K hK => ?_)
                  refine gc Try.func83 (HNM.out _) rfl rfl ?_
                  rintro e_ w1 ⟨rfl, hb⟩
                  refine ⟨_, rfl, ?_⟩
                  replace HS := sB HS hb
                  clear hb
                  refine ge hK ⟨HS.out.c 1 2 (v := .slice B z.length b) rfl rfl, HS.out.str 0 rfl HEs.out⟩ (fun hHeld => ?_)
                  clear hK K
                  repeat (first | ((with_reducible refine gate_p ?_); refine rp rfl rfl ?_) | ((with_reducible refine gate_t ?_); refine rt rfl rfl hHeld ?_))
                  refine run_e rfl (fun K hK => ?_)
                  refine stp_lit (KT) rfl 66 (by rfl) HS (xs := [((s, (m : Int), 1) : Tm)]) (inner := [.string s, .int .i64 (m : Int), .int .i64 1]) (by first | (go_simp; done) | (go_simp; rfl)) (fun W base ok => Reps.snoc (Reps.none _ _) (KT_M (s, (m : Int), 1) W base ok) rfl) (by simp) ?_
                  clear HS
                  intro A_k c_k w1 HS
                  refine ge hK ⟨HS.out.c 2 2 (v := .slice B z.length b) rfl rfl, HS.out.str 1 rfl HEs.out⟩ (fun hHeld => ?_)
                  clear hK K
                  refine run_d rfl (fun K hK => ?_)
                  refine stp_rows KT rfl (fun _ _ _ _ _ h => h) (by rfl) HS 3 rfl (.tmp 65) (.tmp 79) 22 (.agg #[(.string ⟨#[]⟩), (.int .i64 0), (.int .i64 0)]) 32 rfl Try.underlying22 infoTerm (by kernel_rfl) [((s, (m : Int), 1) : Tm)] rfl rfl (HS.out.reads 0 rfl) (by show (z.length + 1) * 32 ≤ _; omega) ?_
                  clear HS
                  intro A_y' c_y' y' w1 Ny' HS
                  simp only [List.set_cons_zero, List.set_cons_succ] at HS
                  refine gd hK ?_
                  clear hK K
                  repeat (first | ((with_reducible refine gate_p ?_); refine rp rfl rfl ?_) | ((with_reducible refine gate_t ?_); refine rt rfl rfl hHeld ?_))
                  refine run_d rfl (fun K hK => ?_)
                  refine st1 HS 2 2 #[.int .i64 (d : Int), .int .i64 (n : Int), (.slice A_y' y'.length c_y')] rfl rfl rfl rfl rfl ?_
                  clear HS
                  intro w1 HS
                  refine goD hK rfl ?_
                  clear hK K
                  refine run_done ?_
                  clear hHeld
                  go_wp2
                  go_roundw
                  case rel => exact ⟨i + 1, A_y', c_y', y', by omega, by go_num, ⟨by rw [Ny'.out, HN.out]⟩, sX HS [1, 2, 3, 4]⟩
                  case measure => simp [intOf]; omega
                · obtain rfl : i = us.length := by omega
                  have f1_ := HS.out.c 1 0 (v := .int .i64 (d : Int)) rfl rfl
                  have f2_ := HS.out.c 1 1 (v := .int .i64 (n : Int)) rfl rfl
                  have f3_ := HS.out.c 1 2 (v := .slice B z.length b) rfl rfl
                  go_wp2_with (first | ((with_reducible refine gate_store (t := 24) (p := 8) rfl ?_); refine stL HS 3 0 #[.int .i64 (d : Int), .int .i64 (n : Int), .slice B z.length b] rfl rfl rfl rfl rfl ?_; clear HS f1_ f2_ f3_; intro w1 HS))
                  refine bodyPost_ret (results_cell_tmp_row rfl _ _ g_r 24 #[.int .i64 (d : Int), .int .i64 (n : Int), .slice B z.length b] (0, 0) _ rfl (HS.out.at (i := 3) rfl) Try.underlying24 rfl (by kernel_rfl)) rfl ?_
                  rw [HE.out, ← HZ.out]
                  exact ⟨B, b, rfl, HS.out.sel [2] (by decide)⟩
          · have hg4 : ((n : Int) < (u.size : Int)) := by omega
            rw [if_neg (by simp [h4])]
            go_enter Try.func14, Try.ntmps14
            have tk4_ : True := trivial
            go_wp2_with (first | ((with_reducible refine gate_dst (N := 8) rfl ?_); refine bxL 24 #[(.int .i64 0), (.int .i64 0), (.slice none 0 0)] HS ?_; clear HS; intro g_r w1 hg_r HS) | (go_at_call 80; refine (specSizes d n _).mono ?_; rintro e_ w1 ⟨rfl, hb⟩; replace HS := sB HS hb; clear hb) | (go_at_call 81; clear tk4_; refine (specWord d (by omega) v (by omega) _).mono ?_; rintro e_ w1 ⟨rfl, hb⟩; replace HS := sB HS hb; clear hb) | (go_at_call 81; refine (specWord d (by omega) u (by omega) _).mono ?_; rintro e_ w1 ⟨rfl, hb⟩; replace HS := sB HS hb; clear hb) | ((with_reducible refine gate_store (t := 24) (p := 8) rfl ?_); refine stL HS 0 0 #[(.int .i64 0), (.int .i64 0), (.slice none 0 0)] rfl rfl rfl rfl rfl ?_; clear HS; intro w1 HS))
            refine bodyPost_ret (results_cell_tmp_row rfl _ _ g_r 24 #[(.int .i64 0), (.int .i64 0), (.slice none 0 0)] (0, 0) _ rfl (HS.out.at (i := 0) rfl) Try.underlying24 rfl (by kernel_rfl)) rfl ?_
            exact ⟨none, 0, rfl, nilS (HS.out.sel [] (by decide))⟩
        · have hg3 : ((n : Int) < (v.size : Int)) := by omega
          rw [if_neg (by simp [h3])]
          go_enter Try.func14, Try.ntmps14
          have tk5_ : True := trivial
          go_wp2_with (first | ((with_reducible refine gate_dst (N := 8) rfl ?_); refine bxL 24 #[(.int .i64 0), (.int .i64 0), (.slice none 0 0)] HS ?_; clear HS; intro g_r w1 hg_r HS) | (go_at_call 80; refine (specSizes d n _).mono ?_; rintro e_ w1 ⟨rfl, hb⟩; replace HS := sB HS hb; clear hb) | (go_at_call 81; clear tk5_; refine (specWord d (by omega) v (by omega) _).mono ?_; rintro e_ w1 ⟨rfl, hb⟩; replace HS := sB HS hb; clear hb) | (go_at_call 81; refine (specWord d (by omega) u (by omega) _).mono ?_; rintro e_ w1 ⟨rfl, hb⟩; replace HS := sB HS hb; clear hb) | ((with_reducible refine gate_store (t := 24) (p := 8) rfl ?_); refine stL HS 0 0 #[(.int .i64 0), (.int .i64 0), (.slice none 0 0)] rfl rfl rfl rfl rfl ?_; clear HS; intro w1 HS))
          refine bodyPost_ret (results_cell_tmp_row rfl _ _ g_r 24 #[(.int .i64 0), (.int .i64 0), (.slice none 0 0)] (0, 0) _ rfl (HS.out.at (i := 0) rfl) Try.underlying24 rfl (by kernel_rfl)) rfl ?_
          exact ⟨none, 0, rfl, nilS (HS.out.sel [] (by decide))⟩
set_option maxHeartbeats 8000000 in
theorem implShuffleWords (d n : Int) (v u : ByteArray) (w : World) (hv : v.size ≤ 1048576) (hu : u.size ≤ 1048576) :
    Calls Try.prog 15 #[.int .i64 d, .int .i64 n, .string v, .string u] w (RetS w (swR d n v u)) := by
  have HS := Aside0.mk (Sep.refl w)
  unfold swR okW2
  cases h : lev d n with
  | false =>
    go_enter Try.func15, Try.ntmps15
    go_wp2_with (first | ((with_reducible refine gate_dst (N := 8) rfl ?_); refine bxL 24 #[(.int .i64 0), (.int .i64 0), (.slice none 0 0)] HS ?_; clear HS; intro g_r w1 hg_r HS) | (go_at_call 84; refine (implLevel d n _).mono ?_; rintro e_ w1 ⟨rfl, hb⟩; replace HS := sB HS hb; clear hb) | ((with_reducible refine gate_store (t := 24) (p := 8) rfl ?_); refine stL HS 0 0 #[(.int .i64 0), (.int .i64 0), (.slice none 0 0)] rfl rfl rfl rfl rfl ?_; clear HS; intro w1 HS))
    refine bodyPost_ret (results_cell_tmp_row rfl _ _ g_r 24 #[(.int .i64 0), (.int .i64 0), (.slice none 0 0)] (0, 0) _ rfl (HS.out.at (i := 0) rfl) Try.underlying24 rfl (by kernel_rfl)) rfl ?_
    exact ⟨none, 0, rfl, nilS (HS.out.sel [] (by decide))⟩
  | true =>
    have HL := Aside0.mk h
    obtain ⟨d, n, rfl, rfl, hd1, hd3, hn1, hn5⟩ := lev_nat h
    rw [Int.toNat_natCast, Int.toNat_natCast, Bool.true_and]
    have HW1 := Aside0.mk (fun X => implWord d n (by omega) v (by omega) X)
    have HW2 := Aside0.mk (fun X => implWord d n (by omega) u (by omega) X)
    cases h1 : (isWd d v && decide (v.size ≤ n)) with
    | false =>
      rw [h1] at HW1
      rw [if_neg (fun h => by rw [Bool.and_eq_false_iff] at h1; simp at h h1; rcases h1 with h1 | h1 <;> simp_all <;> omega)]
      clear h1
      go_enter Try.func15, Try.ntmps15
      go_wp2_with (first | ((with_reducible refine gate_dst (N := 8) rfl ?_); refine bxL 24 #[(.int .i64 0), (.int .i64 0), (.slice none 0 0)] HS ?_; clear HS; intro g_r w1 hg_r HS) | (go_at_call 84; refine (implLevel d n _).mono ?_; rintro e_ w1 ⟨rfl, hb⟩; replace HS := sB HS hb; clear hb) | (go_at_call 85; refine (HW1.out _).mono ?_; rintro e_ w1 ⟨rfl, hb⟩; replace HS := sB HS hb; clear hb) | ((with_reducible refine gate_store (t := 24) (p := 8) rfl ?_); refine stL HS 0 0 #[(.int .i64 0), (.int .i64 0), (.slice none 0 0)] rfl rfl rfl rfl rfl ?_; clear HS; intro w1 HS))
      refine bodyPost_ret (results_cell_tmp_row rfl _ _ g_r 24 #[(.int .i64 0), (.int .i64 0), (.slice none 0 0)] (0, 0) _ rfl (HS.out.at (i := 0) rfl) Try.underlying24 rfl (by kernel_rfl)) rfl ?_
      exact ⟨none, 0, rfl, nilS (HS.out.sel [] (by decide))⟩
    | true =>
      rw [h1] at HW1
      rw [Bool.and_eq_true] at h1
      obtain ⟨k1, k2⟩ := h1
      replace k2 := of_decide_eq_true k2
      cases h2 : (isWd d u && decide (u.size ≤ n)) with
      | false =>
        rw [h2] at HW2
        rw [if_neg (fun h => by rw [Bool.and_eq_false_iff] at h2; simp at h h2; rcases h2 with h2 | h2 <;> simp_all <;> omega)]
        clear h2
        go_enter Try.func15, Try.ntmps15
        have tk6_ : True := trivial
        go_wp2_with (first | ((with_reducible refine gate_dst (N := 8) rfl ?_); refine bxL 24 #[(.int .i64 0), (.int .i64 0), (.slice none 0 0)] HS ?_; clear HS; intro g_r w1 hg_r HS) | (go_at_call 84; refine (implLevel d n _).mono ?_; rintro e_ w1 ⟨rfl, hb⟩; replace HS := sB HS hb; clear hb) | (go_at_call 85; clear tk6_; refine (HW1.out _).mono ?_; rintro e_ w1 ⟨rfl, hb⟩; replace HS := sB HS hb; clear hb) | (go_at_call 85; refine (HW2.out _).mono ?_; rintro e_ w1 ⟨rfl, hb⟩; replace HS := sB HS hb; clear hb) | ((with_reducible refine gate_store (t := 24) (p := 8) rfl ?_); refine stL HS 0 0 #[(.int .i64 0), (.int .i64 0), (.slice none 0 0)] rfl rfl rfl rfl rfl ?_; clear HS; intro w1 HS))
        refine bodyPost_ret (results_cell_tmp_row rfl _ _ g_r 24 #[(.int .i64 0), (.int .i64 0), (.slice none 0 0)] (0, 0) _ rfl (HS.out.at (i := 0) rfl) Try.underlying24 rfl (by kernel_rfl)) rfl ?_
        exact ⟨none, 0, rfl, nilS (HS.out.sel [] (by decide))⟩
      | true =>
        rw [h2] at HW2
        rw [Bool.and_eq_true] at h2
        obtain ⟨m1, m2⟩ := h2
        replace m2 := of_decide_eq_true m2
        rw [if_pos (by simp [k1, k2, m1, m2])]
        have HT1 := Aside0.mk (ts_one k1 k2)
        have HT2 := Aside0.mk (ts_one m1 m2)
        have HR := Aside0.mk (show resO d n (shS d n false [(v, 1, 1)] [(u, 1, 1)]) = ((d : Int), (n : Int), shWT d n v u, 0) by rw [sh_two (by omega) (by omega)]; rfl)
        rw [← HR.out]
        clear HR
        go_enter Try.func15, Try.ntmps15
        have tk7_ : True := trivial
        have tk8_ : True := trivial
        go_wp2_with (first | ((with_reducible refine gate_dst (N := 8) rfl ?_); refine bxL 24 #[(.int .i64 0), (.int .i64 0), (.slice none 0 0)] HS ?_; clear HS; intro g_r w1 hg_r HS) | (go_at_call 84; refine (implLevel d n _).mono ?_; rintro e_ w1 ⟨rfl, hb⟩; replace HS := sB HS hb; clear hb) | (go_at_call 85; clear tk7_; refine (HW1.out _).mono ?_; rintro e_ w1 ⟨rfl, hb⟩; replace HS := sB HS hb; clear hb) | (go_at_call 85; refine (HW2.out _).mono ?_; rintro e_ w1 ⟨rfl, hb⟩; replace HS := sB HS hb; clear hb) | (go_at_call 86; clear tk8_; refine (implWhole 1 _).mono ?_; rintro e_ w1 ⟨rfl, hb⟩; replace HS := sB HS hb; clear hb) | ((with_reducible refine gate_dst (N := 36) rfl ?_); refine wpList_stp (fun K hK => ?_); refine stp_lit (KT) rfl 66 (by rfl) HS (xs := [((v, 1, 1) : Tm)]) (inner := [.string v, .int .i64 1, .int .i64 1]) (by first | (go_simp; done) | (go_simp; rfl)) (fun W base ok => Reps.snoc (Reps.none _ _) (KT_M (v, 1, 1) W base ok) rfl) (by simp) ?_; clear HS; intro A_x c_x w1 HS; refine hK _ _ ?_; clear hK K) | ((with_reducible refine gate_dst (N := 10) rfl ?_); refine bxL 24 #[(.int .i64 0), (.int .i64 0), (.slice none 0 0)] HS ?_; clear HS; intro g_p w1 hg_p HS) | ((with_reducible refine gate_store (t := 24) (p := 10) rfl ?_); refine stL HS 0 0 #[(.int .i64 (d : Int)), (.int .i64 (n : Int)), (.slice A_x ([((v, 1, 1) : Tm)]).length c_x)] rfl rfl rfl rfl rfl ?_; clear HS; intro w1 HS) | (go_at_call 86; refine (implWhole 1 _).mono ?_; rintro e_ w1 ⟨rfl, hb⟩; replace HS := sB HS hb; clear hb) | ((with_reducible refine gate_dst (N := 43) rfl ?_); refine wpList_stp (fun K hK => ?_); refine stp_lit (KT) rfl 66 (by rfl) HS (xs := [((u, 1, 1) : Tm)]) (inner := [.string u, .int .i64 1, .int .i64 1]) (by first | (go_simp; done) | (go_simp; rfl)) (fun W base ok => Reps.snoc (Reps.none _ _) (KT_M (u, 1, 1) W base ok) rfl) (by simp) ?_; clear HS; intro A_y c_y w1 HS; refine hK _ _ ?_; clear hK K) | ((with_reducible refine gate_dst (N := 11) rfl ?_); refine bxL 24 #[(.int .i64 0), (.int .i64 0), (.slice none 0 0)] HS ?_; clear HS; intro g_q w1 hg_q HS) | ((with_reducible refine gate_store (t := 24) (p := 11) rfl ?_); refine stL HS 0 0 #[(.int .i64 (d : Int)), (.int .i64 (n : Int)), (.slice A_y ([((u, 1, 1) : Tm)]).length c_y)] rfl rfl rfl rfl rfl ?_; clear HS; intro w1 HS; have f1_ := HS.out.c 2 0 (v := (.int .i64 (d : Int))) rfl rfl; have f2_ := HS.out.c 2 1 (v := (.int .i64 (n : Int))) rfl rfl; have f3_ := HS.out.c 2 2 (v := (.slice A_x ([((v, 1, 1) : Tm)]).length c_x)) rfl rfl; have f4_ := HS.out.c 0 0 (v := (.int .i64 (d : Int))) rfl rfl; have f5_ := HS.out.c 0 1 (v := (.int .i64 (n : Int))) rfl rfl; have f6_ := HS.out.c 0 2 (v := (.slice A_y ([((u, 1, 1) : Tm)]).length c_y)) rfl rfl) | (go_at_call 87; refine (implShuffledF d n HL.out A_x c_x [(v, 1, 1)] A_y c_y [(u, 1, 1)] _ (HS.out.reads 3 rfl) (HS.out.reads 1 rfl) HT1.out HT2.out).mono ?_; rintro e_ w1 ⟨g3, v3, F3, rfl, hF, hQ, hs⟩; replace HS := sN2 HS hs; clear hs f1_ f2_ f3_ f4_ f5_ f6_; have HF3 := Aside0.mk hF; have HQ3 := Aside0.mk hQ; clear hF hQ) | (go_at_call 89; refine (tabTold HL.out ⟨HF3.out, HQ3.out, HS.out.at (i := 0) rfl, HS.out.at (i := 1) rfl⟩).mono ?_; rintro e_ w1 ⟨B, b, rfl, hs⟩; replace HS := sN1 HS hs; clear hs) | ((with_reducible refine gate_store (t := 24) (p := 8) rfl ?_); refine stL HS 7 0 #[.int .i64 (resO d n (shS d n false [(v, 1, 1)] [(u, 1, 1)])).1, .int .i64 (resO d n (shS d n false [(v, 1, 1)] [(u, 1, 1)])).2.1, .slice B (resO d n (shS d n false [(v, 1, 1)] [(u, 1, 1)])).2.2.1.length b] rfl rfl rfl rfl rfl ?_; clear HS; intro w1 HS))
        refine bodyPost_ret (results_cell_tmp_row rfl _ _ g_r 24 #[.int .i64 (resO d n (shS d n false [(v, 1, 1)] [(u, 1, 1)])).1, .int .i64 (resO d n (shS d n false [(v, 1, 1)] [(u, 1, 1)])).2.1, .slice B (resO d n (shS d n false [(v, 1, 1)] [(u, 1, 1)])).2.2.1.length b] (0, 0) _ rfl (HS.out.at (i := 7) rfl) Try.underlying24 rfl (by kernel_rfl)) rfl ?_
        exact ⟨B, b, rfl, HS.out.sel [0] (by decide)⟩
end Go.Proofs.Ytaheikponfmdiaa.H


