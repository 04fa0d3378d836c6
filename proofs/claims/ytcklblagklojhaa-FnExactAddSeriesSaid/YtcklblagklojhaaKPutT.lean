/- PutTerm: what the program and the reference return. Conditions: the bounds that stand in each statement. -/
import Derived.Test.YtcklblagklojhaaKPut
import Derived.Test.YtcklblagklojhaaKPart
import Derived.Test.YtcklblagklojhaaKScale2
namespace Go.Proofs.Ytcklblagklojhaa.M
def notW (s : ByteArray) (t : Tm) : Bool := decide (t.1 ≠ s)
theorem co_filter (l : Ts) (s v : ByteArray) : co (l.filter (notW s)) v = if v = s then (0, 1) else co l v := by
  by_cases h : v = s
  · rw [if_pos h]
    refine co_none fun t ht e => ?_
    have := (List.mem_filter.1 ht).2
    unfold notW at this
    exact absurd (e.trans h) (of_decide_eq_true this)
  · rw [if_neg h]
    induction l with
    | nil => rfl
    | cons t r ih =>
      rw [List.filter_cons, co_cons]
      by_cases e : t.1 = s
      · rw [if_neg (by unfold notW; simp [e]), ih, if_neg (fun h2 => h (h2.symm.trans e))]
      · rw [if_pos (by unfold notW; simp [e]), co_cons, ih]
theorem filter_ts {d n : Nat} {l : Ts} (h : isTs d n l = true) (p : Tm → Bool) : isTs d n (l.filter p) = true := by
  obtain ⟨h1, h2⟩ := isTs_iff.1 h
  exact isTs_iff.2 ⟨fun t ht => h1 t (List.mem_filter.1 ht).1, List.Pairwise.filter _ h2⟩
theorem put_filter {d n : Nat} (hd : d ≤ 9) {l : Ts} {s : ByteArray} {a : Fr} (h : isTs d n l = true) (hs : isWd d s = true) (hn : s.size ≤ n) (ha : fr a = true) :
    put (l.filter (notW s)) s a = some (tabT d n (upd (co l) s a)) := by
  have hf := filter_ts h (notW s)
  have h0 : co (l.filter (notW s)) s = (0, 1) := by rw [co_filter, if_pos rfl]
  rcases put_co hf hs hn ha with ⟨_, e2⟩ | ⟨l', z, e1, e2, e3, e4, _⟩
  · rw [h0, add_zero_left ha] at e2; cases e2
  · rw [h0, add_zero_left ha] at e2
    obtain rfl := Option.some.inj e2
    rw [e1]
    congr 1
    refine eq_tabT hd e3 (good_upd (good_co h) ha) fun v _ _ => ?_
    rw [e4]
    unfold upd
    split
    · rfl
    · rename_i hv
      rw [co_filter, if_neg hv]
theorem bnd_filter {l : Ts} (h : bnd l = true) (p : Tm → Bool) : bnd (l.filter p) = true := by
  obtain ⟨h1, h2⟩ := bnd_iff.1 h
  exact bnd_iff.2 ⟨Nat.le_trans (List.length_filter_le _ _) h1, fun t ht => h2 t (List.mem_filter.1 ht).1⟩
def putR (d n : Int) (l : Ts) (s : ByteArray) (x y : Int) : Rs := if isS d n l = true then if isFr x y = true then if (s.size : Int) ≤ n ∧ isWd d.toNat s = true then (d, n, tabT d.toNat n.toNat (upd (co l) s (x, y)), 0) else noS 2 else noS 1 else noS 1
theorem put_len {d n : Int} {l : Ts} {s : ByteArray} {x y : Int} : (putR d n l s x y).2.2.1.length ≤ 1048576 := by
  unfold putR
  split
  · rename_i h
    obtain ⟨⟨h1, h2⟩, ⟨h3, h4⟩, _⟩ := lev_iff.1 (isS_l h)
    split
    · split
      · have := tabT_length_le d.toNat n.toNat (upd (co l) s (x, y))
        have := ahead_le (d := d.toNat) (k := n.toNat + 1) (by omega) (by omega)
        show (tabT _ _ _).length ≤ _
        omega
      · show (0 : Nat) ≤ _; decide
    · show (0 : Nat) ≤ _; decide
  · show (0 : Nat) ≤ _; decide
end Go.Proofs.Ytcklblagklojhaa.M
namespace Go.Proofs.Ytcklblagklojhaa.H
open Go.RowKit Go.Proofs.YtcklblagklojhaaW.PrintWords Go.Proofs.YtcklblagklojhaaW.PrintLast Go.Proofs.YtcklblagklojhaaW.PrintMore Go.Proofs.Ytcklblagklojhaa.M
attribute [local go_sem] max2_int min2_int max_two min_two max_three min_three max_four min_four resP toldR
set_option linter.unusedVariables false
set_option linter.unusedSimpArgs false
set_option maxRecDepth 100000
set_option maxHeartbeats 16000000 in
theorem specPutTerm (d n : Int) (A : Option Addr) (c : Nat) (l : Ts) (s : ByteArray) (x y : Int) (w : World) (hr : KT.C w A l.length l) (hc : l.length ≤ c) (hb : bnd l = true) (hsz : s.size ≤ 1048576) :
    Calls Try.prog 57 #[.agg #[.int .i64 d, .int .i64 n, .slice A l.length c], .string s, .agg #[.int .i64 x, .int .i64 y]] w (RetS w (putR d n l s x y)) := by
  have HR := Aside0.mk hr
  have HB := Aside0.mk hb
  have hll := (bnd_iff.1 hb).1
  have HZ := Aside0.mk (fun j => bnd_get hb j)
  have HS := Aside0.mk (Sep.refl w)
  clear hr hb
  unfold putR
  cases h : isS d n l with
  | false =>
    go_enter Try.func57, Try.ntmps57
    go_wp2_with (first | ((with_reducible refine gate_dst (N := 3) rfl ?_); refine wpList_stp (fun K hK => ?_); refine stp_box (by rfl) HS (cs := #[.int .i64 d, .int .i64 n, .slice A l.length c]) (t := 32) (by first | (go_simp; done) | (go_simp; rfl)) ?_; clear HS; intro g_p w1 hg_p HS; refine hK _ _ ?_; clear hK K) | ((with_reducible refine gate_dst (N := 5) rfl ?_); refine wpList_stp (fun K hK => ?_); refine stp_box (by rfl) HS (cs := #[.int .i64 x, .int .i64 y]) (t := 24) (by first | (go_simp; done) | (go_simp; rfl)) ?_; clear HS; intro g_a w1 hg_a HS; refine hK _ _ ?_; clear hK K) | ((with_reducible refine gate_dst (N := 6) rfl ?_); refine wpList_stp (fun K hK => ?_); refine stp_box (by rfl) HS (cs := #[(.int .i64 0), (.int .i64 0), (.slice none 0 0)]) (t := 32) (by first | (go_simp; done) | (go_simp; rfl)) ?_; clear HS; intro g_r w1 hg_r HS; refine hK _ _ ?_; clear hK K; have f1_ := HS.out.c 2 0 (v := .int .i64 d) rfl rfl; have f2_ := HS.out.c 2 1 (v := .int .i64 n) rfl rfl; have f3_ := HS.out.c 2 2 (v := .slice A l.length c) rfl rfl) | (go_at_call 109; refine (specIs d n A c l _ (HS.out.oldC HR.out) hc HB.out).mono ?_; rintro e_ w1 ⟨rfl, hb⟩; have n_ := Aside0.mk (HS.out.call hb); clear HS f1_ f2_ f3_ hb; have HS := n_; clear n_) | ((with_reducible refine gate_store (t := 32) (p := 6) rfl ?_); refine wpList_stp (fun K hK => ?_); refine stp_set (by rfl) rfl rfl HS 0 0 (cs' := #[(.int .i64 0), (.int .i64 0), (.slice none 0 0)]) rfl rfl rfl (by kernel_rfl) rfl rfl ?_; clear HS; intro w1 HS; simp only [List.set_cons_zero, List.set_cons_succ] at HS; refine hK _ _ ?_; clear hK K))
    refine bodyPost_ret (results_cell_tmp_row rfl _ _ g_r 32 #[(.int .i64 0), (.int .i64 0), (.slice none 0 0)] (0, 0) _ rfl (HS.out.at (i := 0) rfl) Try.underlying32 rfl (by kernel_rfl)) rfl ?_
    exact ⟨none, 0, rfl, nilS (HS.out.sel [] (by decide))⟩
  | true =>
    cases hf : isFr x y with
    | false =>
      go_enter Try.func57, Try.ntmps57
      go_wp2_with (first | ((with_reducible refine gate_dst (N := 3) rfl ?_); refine wpList_stp (fun K hK => ?_); refine stp_box (by rfl) HS (cs := #[.int .i64 d, .int .i64 n, .slice A l.length c]) (t := 32) (by first | (go_simp; done) | (go_simp; rfl)) ?_; clear HS; intro g_p w1 hg_p HS; refine hK _ _ ?_; clear hK K) | ((with_reducible refine gate_dst (N := 5) rfl ?_); refine wpList_stp (fun K hK => ?_); refine stp_box (by rfl) HS (cs := #[.int .i64 x, .int .i64 y]) (t := 24) (by first | (go_simp; done) | (go_simp; rfl)) ?_; clear HS; intro g_a w1 hg_a HS; refine hK _ _ ?_; clear hK K) | ((with_reducible refine gate_dst (N := 6) rfl ?_); refine wpList_stp (fun K hK => ?_); refine stp_box (by rfl) HS (cs := #[(.int .i64 0), (.int .i64 0), (.slice none 0 0)]) (t := 32) (by first | (go_simp; done) | (go_simp; rfl)) ?_; clear HS; intro g_r w1 hg_r HS; refine hK _ _ ?_; clear hK K; have f1_ := HS.out.c 2 0 (v := .int .i64 d) rfl rfl; have f2_ := HS.out.c 2 1 (v := .int .i64 n) rfl rfl; have f3_ := HS.out.c 2 2 (v := .slice A l.length c) rfl rfl) | (go_at_call 109; refine (specIs d n A c l _ (HS.out.oldC HR.out) hc HB.out).mono ?_; rintro e_ w1 ⟨rfl, hb⟩; have n_ := Aside0.mk (HS.out.call hb); clear HS f1_ f2_ f3_ hb; have HS := n_; clear n_; have f1_ := HS.out.c 1 0 (v := .int .i64 x) rfl rfl; have f2_ := HS.out.c 1 1 (v := .int .i64 y) rfl rfl) | (go_at_call 91; refine (specIsFrac x y _).mono ?_; rintro e_ w1 ⟨rfl, hb⟩; have n_ := Aside0.mk (HS.out.call hb); clear HS f1_ f2_ hb; have HS := n_; clear n_) | ((with_reducible refine gate_store (t := 32) (p := 6) rfl ?_); refine wpList_stp (fun K hK => ?_); refine stp_set (by rfl) rfl rfl HS 0 0 (cs' := #[(.int .i64 0), (.int .i64 0), (.slice none 0 0)]) rfl rfl rfl (by kernel_rfl) rfl rfl ?_; clear HS; intro w1 HS; simp only [List.set_cons_zero, List.set_cons_succ] at HS; refine hK _ _ ?_; clear hK K))
      refine bodyPost_ret (results_cell_tmp_row rfl _ _ g_r 32 #[(.int .i64 0), (.int .i64 0), (.slice none 0 0)] (0, 0) _ rfl (HS.out.at (i := 0) rfl) Try.underlying32 rfl (by kernel_rfl)) rfl ?_
      exact ⟨none, 0, rfl, nilS (HS.out.sel [] (by decide))⟩
    | true =>
      have HX := Aside0.mk (isS_t h)
      obtain ⟨d, n, rfl, rfl, hd1, hd3, hn1, hn5⟩ := lev_nat (isS_l h)
      rw [Int.toNat_natCast, Int.toNat_natCast] at HX
      rw [Int.toNat_natCast, Int.toNat_natCast]
      by_cases hn : (n : Int) < s.size
      · have hnn : ¬ ((s.size : Int) ≤ n ∧ isWd d s = true) := fun h => by omega
        rw [if_pos rfl, if_pos rfl, if_neg hnn]
        have hgt : ¬ ((s.size : Int) ≤ n) := by omega
        clear hnn
        go_enter Try.func57, Try.ntmps57
        go_wp2_with (first | ((with_reducible refine gate_dst (N := 3) rfl ?_); refine wpList_stp (fun K hK => ?_); refine stp_box (by rfl) HS (cs := #[.int .i64 (d : Int), .int .i64 (n : Int), .slice A l.length c]) (t := 32) (by first | (go_simp; done) | (go_simp; rfl)) ?_; clear HS; intro g_p w1 hg_p HS; refine hK _ _ ?_; clear hK K) | ((with_reducible refine gate_dst (N := 5) rfl ?_); refine wpList_stp (fun K hK => ?_); refine stp_box (by rfl) HS (cs := #[.int .i64 x, .int .i64 y]) (t := 24) (by first | (go_simp; done) | (go_simp; rfl)) ?_; clear HS; intro g_a w1 hg_a HS; refine hK _ _ ?_; clear hK K) | ((with_reducible refine gate_dst (N := 6) rfl ?_); refine wpList_stp (fun K hK => ?_); refine stp_box (by rfl) HS (cs := #[(.int .i64 0), (.int .i64 0), (.slice none 0 0)]) (t := 32) (by first | (go_simp; done) | (go_simp; rfl)) ?_; clear HS; intro g_r w1 hg_r HS; refine hK _ _ ?_; clear hK K; have f1_ := HS.out.c 2 0 (v := .int .i64 (d : Int)) rfl rfl; have f2_ := HS.out.c 2 1 (v := .int .i64 (n : Int)) rfl rfl; have f3_ := HS.out.c 2 2 (v := .slice A l.length c) rfl rfl) | (go_at_call 109; refine (specIs d n A c l _ (HS.out.oldC HR.out) hc HB.out).mono ?_; rintro e_ w1 ⟨rfl, hb⟩; have n_ := Aside0.mk (HS.out.call hb); clear HS f1_ f2_ f3_ hb; have HS := n_; clear n_; have f1_ := HS.out.c 1 0 (v := .int .i64 x) rfl rfl; have f2_ := HS.out.c 1 1 (v := .int .i64 y) rfl rfl) | (go_at_call 91; refine (specIsFrac x y _).mono ?_; rintro e_ w1 ⟨rfl, hb⟩; have n_ := Aside0.mk (HS.out.call hb); clear HS f1_ f2_ hb; have HS := n_; clear n_; have f1_ := HS.out.c 2 1 (v := .int .i64 (n : Int)) rfl rfl) | ((with_reducible refine gate_store (t := 32) (p := 6) rfl ?_); refine wpList_stp (fun K hK => ?_); refine stp_set (by rfl) rfl rfl HS 0 0 (cs' := #[(.int .i64 0), (.int .i64 0), (.slice none 0 0)]) rfl rfl rfl (by kernel_rfl) rfl rfl ?_; clear HS f1_; intro w1 HS; simp only [List.set_cons_zero, List.set_cons_succ] at HS; refine hK _ _ ?_; clear hK K))
        refine bodyPost_ret (results_cell_tmp_row rfl _ _ g_r 32 #[(.int .i64 0), (.int .i64 0), (.slice none 0 0)] (0, 0) _ rfl (HS.out.at (i := 0) rfl) Try.underlying32 rfl (by kernel_rfl)) rfl ?_
        exact ⟨none, 0, rfl, nilS (HS.out.sel [] (by decide))⟩
      · cases hw : isWd d s with
        | false =>
          have hnn : ¬ ((s.size : Int) ≤ n ∧ false = true) := fun h => by have := h.2; cases this
          rw [if_pos rfl, if_pos rfl, if_neg hnn]
          clear hnn
          go_enter Try.func57, Try.ntmps57
          go_wp2_with (first | ((with_reducible refine gate_dst (N := 3) rfl ?_); refine wpList_stp (fun K hK => ?_); refine stp_box (by rfl) HS (cs := #[.int .i64 (d : Int), .int .i64 (n : Int), .slice A l.length c]) (t := 32) (by first | (go_simp; done) | (go_simp; rfl)) ?_; clear HS; intro g_p w1 hg_p HS; refine hK _ _ ?_; clear hK K) | ((with_reducible refine gate_dst (N := 5) rfl ?_); refine wpList_stp (fun K hK => ?_); refine stp_box (by rfl) HS (cs := #[.int .i64 x, .int .i64 y]) (t := 24) (by first | (go_simp; done) | (go_simp; rfl)) ?_; clear HS; intro g_a w1 hg_a HS; refine hK _ _ ?_; clear hK K) | ((with_reducible refine gate_dst (N := 6) rfl ?_); refine wpList_stp (fun K hK => ?_); refine stp_box (by rfl) HS (cs := #[(.int .i64 0), (.int .i64 0), (.slice none 0 0)]) (t := 32) (by first | (go_simp; done) | (go_simp; rfl)) ?_; clear HS; intro g_r w1 hg_r HS; refine hK _ _ ?_; clear hK K; have f1_ := HS.out.c 2 0 (v := .int .i64 (d : Int)) rfl rfl; have f2_ := HS.out.c 2 1 (v := .int .i64 (n : Int)) rfl rfl; have f3_ := HS.out.c 2 2 (v := .slice A l.length c) rfl rfl) | (go_at_call 109; refine (specIs d n A c l _ (HS.out.oldC HR.out) hc HB.out).mono ?_; rintro e_ w1 ⟨rfl, hb⟩; have n_ := Aside0.mk (HS.out.call hb); clear HS f1_ f2_ f3_ hb; have HS := n_; clear n_; have f1_ := HS.out.c 1 0 (v := .int .i64 x) rfl rfl; have f2_ := HS.out.c 1 1 (v := .int .i64 y) rfl rfl) | (go_at_call 91; refine (specIsFrac x y _).mono ?_; rintro e_ w1 ⟨rfl, hb⟩; have n_ := Aside0.mk (HS.out.call hb); clear HS f1_ f2_ hb; have HS := n_; clear n_; have f1_ := HS.out.c 2 1 (v := .int .i64 (n : Int)) rfl rfl; have f2_ := HS.out.c 2 0 (v := .int .i64 (d : Int)) rfl rfl) | (go_at_call 123; refine (specWord d (by omega) s (by omega) _).mono ?_; rintro e_ w1 ⟨rfl, hb⟩; have n_ := Aside0.mk (HS.out.call hb); clear HS f1_ f2_ hb; have HS := n_; clear n_) | ((with_reducible refine gate_store (t := 32) (p := 6) rfl ?_); refine wpList_stp (fun K hK => ?_); refine stp_set (by rfl) rfl rfl HS 0 0 (cs' := #[(.int .i64 0), (.int .i64 0), (.slice none 0 0)]) rfl rfl rfl (by kernel_rfl) rfl rfl ?_; clear HS; intro w1 HS; simp only [List.set_cons_zero, List.set_cons_succ] at HS; refine hK _ _ ?_; clear hK K))
          refine bodyPost_ret (results_cell_tmp_row rfl _ _ g_r 32 #[(.int .i64 0), (.int .i64 0), (.slice none 0 0)] (0, 0) _ rfl (HS.out.at (i := 0) rfl) Try.underlying32 rfl (by kernel_rfl)) rfl ?_
          exact ⟨none, 0, rfl, nilS (HS.out.sel [] (by decide))⟩
        | true =>
          have hnn : (s.size : Int) ≤ n ∧ true = true := ⟨by omega, rfl⟩
          rw [if_pos rfl, if_pos rfl, if_pos hnn]
          clear hnn
          have hPut := put_filter (a := (x, y)) (by omega) HX.out hw (by omega) hf
          have HP := Aside0.mk (fun A c W k1 k2 => hPut ▸ specPut A c (l.filter (notW s)) s x y W k1 k2 (bnd_filter HB.out _) (isTs_small (filter_ts HX.out _)) hsz (fr_small hf))
          obtain ⟨T, hT⟩ : ∃ T, T = tabT d n (upd (co l) s (x, y)) := ⟨_, rfl⟩
          rw [← hT] at HP
          rw [← hT]
          clear hT hPut
          go_enter Try.func57, Try.ntmps57
          go_wp2_with (first | ((with_reducible refine gate_dst (N := 3) rfl ?_); refine wpList_stp (fun K hK => ?_); refine stp_box (by rfl) HS (cs := #[.int .i64 (d : Int), .int .i64 (n : Int), .slice A l.length c]) (t := 32) (by first | (go_simp; done) | (go_simp; rfl)) ?_; clear HS; intro g_p w1 hg_p HS; refine hK _ _ ?_; clear hK K) | ((with_reducible refine gate_dst (N := 5) rfl ?_); refine wpList_stp (fun K hK => ?_); refine stp_box (by rfl) HS (cs := #[.int .i64 x, .int .i64 y]) (t := 24) (by first | (go_simp; done) | (go_simp; rfl)) ?_; clear HS; intro g_a w1 hg_a HS; refine hK _ _ ?_; clear hK K) | ((with_reducible refine gate_dst (N := 6) rfl ?_); refine wpList_stp (fun K hK => ?_); refine stp_box (by rfl) HS (cs := #[(.int .i64 0), (.int .i64 0), (.slice none 0 0)]) (t := 32) (by first | (go_simp; done) | (go_simp; rfl)) ?_; clear HS; intro g_r w1 hg_r HS; refine hK _ _ ?_; clear hK K; have f1_ := HS.out.c 2 0 (v := .int .i64 (d : Int)) rfl rfl; have f2_ := HS.out.c 2 1 (v := .int .i64 (n : Int)) rfl rfl; have f3_ := HS.out.c 2 2 (v := .slice A l.length c) rfl rfl) | (go_at_call 109; refine (specIs d n A c l _ (HS.out.oldC HR.out) hc HB.out).mono ?_; rintro e_ w1 ⟨rfl, hb⟩; have n_ := Aside0.mk (HS.out.call hb); clear HS f1_ f2_ f3_ hb; have HS := n_; clear n_; have f1_ := HS.out.c 1 0 (v := .int .i64 x) rfl rfl; have f2_ := HS.out.c 1 1 (v := .int .i64 y) rfl rfl) | (go_at_call 91; refine (specIsFrac x y _).mono ?_; rintro e_ w1 ⟨rfl, hb⟩; have n_ := Aside0.mk (HS.out.call hb); clear HS f1_ f2_ hb; have HS := n_; clear n_; have f1_ := HS.out.c 2 1 (v := .int .i64 (n : Int)) rfl rfl; have f2_ := HS.out.c 2 0 (v := .int .i64 (d : Int)) rfl rfl) | (go_at_call 123; refine (specWord d (by omega) s (by omega) _).mono ?_; rintro e_ w1 ⟨rfl, hb⟩; have n_ := Aside0.mk (HS.out.call hb); clear HS f1_ f2_ hb; have HS := n_; clear n_; have f1_ := HS.out.c 2 0 (v := .int .i64 (d : Int)) rfl rfl; have f2_ := HS.out.c 2 1 (v := .int .i64 (n : Int)) rfl rfl; have f3_ := HS.out.c 2 2 (v := .slice A l.length c) rfl rfl) | (go_at_call 117; refine (specEmpty d n A l.length c _).mono ?_; rintro e_ w1 ⟨B, b, rfl, hs⟩; have n_ := Aside0.mk (HS.out.new hs); clear HS f1_ f2_ f3_ hs; have HS := n_; clear n_; simp only [List.cons_append, List.nil_append] at HS) | ((with_reducible refine gate_dst (N := 8) rfl ?_); refine wpList_stp (fun K hK => ?_); refine stp_box (by rfl) HS (cs := #[(.int .i64 0), (.int .i64 0), (.slice none 0 0)]) (t := 32) (by first | (go_simp; done) | (go_simp; rfl)) ?_; clear HS; intro g_q w1 hg_q HS; refine hK _ _ ?_; clear hK K) | ((with_reducible refine gate_store (t := 32) (p := 8) rfl ?_); refine wpList_stp (fun K hK => ?_); refine stp_set (by rfl) rfl rfl HS 0 0 (cs' := #[.int .i64 (d : Int), .int .i64 (n : Int), .slice B ([] : Ts).length b]) rfl rfl rfl (by kernel_rfl) rfl rfl ?_; clear HS; intro w1 HS; simp only [List.set_cons_zero, List.set_cons_succ] at HS; refine hK _ _ ?_; clear hK K))
          go_loopw [9] (fun v w' => ∃ (i : Nat) (B : Option Addr) (b : Nat) (z : Ts), i ≤ l.length ∧ v = .int .i64 (i : Int) ∧ Aside0 (z = (l.take i).filter (notW s)) ∧ Aside0 (Mod w w' No [bx g_q 32 #[.int .i64 (d : Int), .int .i64 (n : Int), .slice B z.length b], rowT B b z, bx g_r 32 #[(.int .i64 0), (.int .i64 0), (.slice none 0 0)], bx g_a 24 #[.int .i64 x, .int .i64 y], bx g_p 32 #[.int .i64 (d : Int), .int .i64 (n : Int), .slice A l.length c]])) (fun v _ => l.length - (intOf v).toNat)
          case atStart => exact ⟨0, B, b, [], by omega, rfl, ⟨rfl⟩, HS⟩
          case round =>
            clear HS
            obtain ⟨i, B, b, z, hi, rfl, HY, HS⟩ := hrel
            by_cases hlt : i < l.length
            · have hzl : z.length ≤ 1048576 := by rw [HY.out]; exact Nat.le_trans (List.length_filter_le _ _) (by rw [List.length_take]; omega)
              have HN := Aside0.mk (filter_next hlt (notW s))
              obtain ⟨ad_A, ea_, h0_, h1_, h2_⟩ := tm_at HR.out i (hlt)
              cases ea_
              obtain ⟨t, ht_⟩ : ∃ t_, t_ = l.getD i zT := ⟨_, rfl⟩
              rw [← ht_] at h0_ h1_ h2_
              have Et := Aside0.mk ht_; have H0t := Aside0.mk h0_; have H1t := Aside0.mk h1_; have H2t := Aside0.mk h2_
              clear ht_ h0_ h1_ h2_
              rw [← Et.out] at HN
              by_cases hp : t.1 = s
              · have HP2 := Aside0.mk hp
                have hpb : t.1.toList = s.toList := by rw [hp]
                have hpb2 : (s.toList != s.toList) = false := by simp
                clear hp
                have f1_ := HS.out.c 4 2 (v := .slice (some ad_A) l.length c) rfl rfl
                have f2_ := HS.out.old H0t.out
                go_wp2
                go_roundw
                case rel => exact ⟨i + 1, B, b, z, by omega, by go_num, ⟨by rw [HN.out, if_neg (by unfold notW; simp [HP2.out]), List.append_nil, HY.out]⟩, HS⟩
                case measure => simp [intOf]; omega
              · have HP2 := Aside0.mk hp
                have hpb3 : (t.1.toList == s.toList) = false := by rw [str_eq]; exact decide_eq_false hp
                clear hp
                have f1_ := HS.out.c 4 2 (v := .slice (some ad_A) l.length c) rfl rfl
                have f2_ := HS.out.old H0t.out
                go_wp2
                clear f1_ f2_
                have n_ := Aside0.mk HS.out.drew
                clear HS
                have HS := n_
                clear n_
                refine plan_start (.p 0 (.p 2 (.p 4 (.t 1 (.t 3 (.p 5 (.t 6 (.e 7 (.d 8 (.p 9 (.d 10 .done))))))))))) (fun w' => w'.cell? ⟨g_q, 2, none⟩ = some (.slice B z.length b) ∧ w'.cell? ⟨g_p, 2, none⟩ = some (.slice (some ad_A) l.length c) ∧ w'.cell? (ad_A.add (i * 3)) = some (.string t.1) ∧ w'.cell? ⟨(ad_A.add (i * 3)).block, (ad_A.add (i * 3)).off + 1, none⟩ = some (.int .i64 t.2.1) ∧ w'.cell? ⟨(ad_A.add (i * 3)).block, (ad_A.add (i * 3)).off + 2, none⟩ = some (.int .i64 t.2.2)) [8, 10] (by kernel_rfl) (by kernel_rfl) (fun c_ a_ d_ v_ w_ h_ => by cases d_ <;> exact h_) ⟨HS.out.c 0 2 (v := .slice B z.length b) rfl rfl, HS.out.c 4 2 (v := .slice (some ad_A) l.length c) rfl rfl, HS.out.old H0t.out, HS.out.old H1t.out, HS.out.old H2t.out⟩ (fun hHeld => ?_)
                repeat (first | ((with_reducible refine gate_p ?_); refine run_p (v := ?_) rfl rfl (Or.inl ⟨by rfl, ?_⟩) (a' := ?_) ?_ ?_; rotate_left; (· (intro w'; first | (go_simp; with_reducible rfl) | (go_simp; done))); rotate_left; (· first | (simp only [Act.put, List.setIfInBounds_toArray, List.set_cons_zero, List.set_cons_succ, i64_w, i32_w]; rfl) | simp only [Act.put, List.setIfInBounds_toArray, List.set_cons_zero, List.set_cons_succ, i64_w, i32_w])) | ((with_reducible refine gate_t ?_); refine run_t (v := ?_) rfl rfl hHeld (Or.inl ⟨by rfl, ?_⟩) (a' := ?_) ?_ ?_; rotate_left; (· (intro w' hS_; first | (go_simp; with_reducible rfl) | (go_simp; done))); rotate_left; (· first | (simp only [Act.put, List.setIfInBounds_toArray, List.set_cons_zero, List.set_cons_succ, i64_w, i32_w]; rfl) | simp only [Act.put, List.setIfInBounds_toArray, List.set_cons_zero, List.set_cons_succ, i64_w, i32_w])))
                refine run_e rfl (fun K hK => ?_)
                refine stp_lit (KT) rfl 77 (by rfl) HS (xs := [t]) (inner := [.string t.1, .int .i64 t.2.1, .int .i64 t.2.2]) (by first | (go_simp; done) | (go_simp; rfl)) (fun W base ok => Reps.snoc (Reps.none _ _) (KT_M t W base ok) rfl) (by simp) ?_
                clear HS
                intro A_u c_u w1 HS
                refine goE hK ⟨HS.out.c 1 2 (v := .slice B z.length b) rfl rfl, HS.out.c 5 2 (v := .slice (some ad_A) l.length c) rfl rfl, HS.out.old H0t.out, HS.out.old H1t.out, HS.out.old H2t.out⟩ (a' := ?_) ?_ (fun hHeld => ?_)
                rotate_left
                · first | (simp only [Act.put, List.setIfInBounds_toArray, List.set_cons_zero, List.set_cons_succ, i64_w, i32_w]; rfl) | simp only [Act.put, List.setIfInBounds_toArray, List.set_cons_zero, List.set_cons_succ, i64_w, i32_w]
                clear hK K
                refine run_d rfl (fun K hK => ?_)
                refine stp_rows KT rfl (fun _ _ _ _ _ h => h) (by rfl) HS 2 rfl (.tmp 54) (.tmp 60) 30 (.agg #[(.string ⟨#[]⟩), (.int .i64 0), (.int .i64 0)]) 32 rfl Try.underlying30 infoTerm (by kernel_rfl) [t] rfl rfl (HS.out.reads 0 rfl) (by show (z.length + 1) * 32 ≤ _; omega) ?_
                clear HS
                intro A_y' c_y' y' w1 Ny' HS
                simp only [List.set_cons_zero, List.set_cons_succ] at HS
                refine goD hK (a' := ?_) ?_ ?_
                rotate_left
                · first | (simp only [Act.put, List.setIfInBounds_toArray, List.set_cons_zero, List.set_cons_succ, i64_w, i32_w]; rfl) | simp only [Act.put, List.setIfInBounds_toArray, List.set_cons_zero, List.set_cons_succ, i64_w, i32_w]
                clear hK K
                repeat (first | ((with_reducible refine gate_p ?_); refine run_p (v := ?_) rfl rfl (Or.inl ⟨by rfl, ?_⟩) (a' := ?_) ?_ ?_; rotate_left; (· (intro w'; first | (go_simp; with_reducible rfl) | (go_simp; done))); rotate_left; (· first | (simp only [Act.put, List.setIfInBounds_toArray, List.set_cons_zero, List.set_cons_succ, i64_w, i32_w]; rfl) | simp only [Act.put, List.setIfInBounds_toArray, List.set_cons_zero, List.set_cons_succ, i64_w, i32_w])) | ((with_reducible refine gate_t ?_); refine run_t (v := ?_) rfl rfl hHeld (Or.inl ⟨by rfl, ?_⟩) (a' := ?_) ?_ ?_; rotate_left; (· (intro w' hS_; first | (go_simp; with_reducible rfl) | (go_simp; done))); rotate_left; (· first | (simp only [Act.put, List.setIfInBounds_toArray, List.set_cons_zero, List.set_cons_succ, i64_w, i32_w]; rfl) | simp only [Act.put, List.setIfInBounds_toArray, List.set_cons_zero, List.set_cons_succ, i64_w, i32_w])))
                refine run_d rfl (fun K hK => ?_)
                refine stp_set (by rfl) rfl rfl HS 1 2 (cs' := #[.int .i64 (d : Int), .int .i64 (n : Int), (.slice A_y' y'.length c_y')]) rfl rfl rfl (by kernel_rfl) rfl rfl ?_
                clear HS
                intro w1 HS
                simp only [List.set_cons_zero, List.set_cons_succ] at HS
                refine goD hK rfl ?_
                clear hK K
                refine run_done ?_
                clear hHeld
                go_wp2
                have n_ := Aside0.mk (HS.out.sel [1, 2, 3, 4, 5] (by decide)); clear HS; have HS := n_; clear n_; simp only [List.filterMap_cons, List.filterMap_nil, List.getElem?_cons_zero, List.getElem?_cons_succ] at HS
                go_roundw
                case rel => exact ⟨i + 1, A_y', c_y', y', by omega, by go_num, ⟨by rw [Ny'.out, HN.out, if_pos (by unfold notW; simp [HP2.out]), HY.out]⟩, HS⟩
                case measure => simp [intOf]; omega
            · obtain rfl : i = l.length := by omega
              rw [List.take_length] at HY
              obtain rfl := HY.out
              clear HY
              have f1_ := HS.out.c 4 2 (v := .slice A l.length c) rfl rfl
              have f2_ := HS.out.c 0 2 (v := .slice B (l.filter (notW s)).length b) rfl rfl
              have f3_ := HS.out.c 3 0 (v := .int .i64 x) rfl rfl
              have f4_ := HS.out.c 3 1 (v := .int .i64 y) rfl rfl
              go_wp2_with (first | (go_at_call 136; refine (HP.out B b _ (HS.out.reads 1 rfl) (HS.out.cap 1 rfl)).mono ?_; rintro e_ w1 ⟨B2, b2, rfl, hs⟩; have n_ := Aside0.mk (HS.out.new hs); clear HS f1_ f2_ f3_ f4_ hs; have HS := n_; clear n_; simp only [List.cons_append, List.nil_append] at HS) | ((with_reducible refine gate_store (t := 30) (p := 72) rfl ?_); refine wpList_stp (fun K hK => ?_); refine stp_set (by rfl) rfl rfl HS 1 2 (cs' := #[.int .i64 (d : Int), .int .i64 (n : Int), (.slice B2 T.length b2)]) rfl rfl rfl (by kernel_rfl) rfl rfl ?_; clear HS; intro w1 HS; simp only [List.set_cons_zero, List.set_cons_succ] at HS; refine hK _ _ ?_; clear hK K; have f1_ := HS.out.c 1 0 (v := .int .i64 (d : Int)) rfl rfl; have f2_ := HS.out.c 1 1 (v := .int .i64 (n : Int)) rfl rfl; have f3_ := HS.out.c 1 2 (v := (.slice B2 T.length b2)) rfl rfl) | ((with_reducible refine gate_store (t := 32) (p := 6) rfl ?_); refine wpList_stp (fun K hK => ?_); refine stp_set (by rfl) rfl rfl HS 3 0 (cs' := #[.int .i64 (d : Int), .int .i64 (n : Int), (.slice B2 T.length b2)]) rfl rfl rfl (by kernel_rfl) rfl rfl ?_; clear HS f1_ f2_ f3_; intro w1 HS; simp only [List.set_cons_zero, List.set_cons_succ] at HS; refine hK _ _ ?_; clear hK K))
              refine bodyPost_ret (results_cell_tmp_row rfl _ _ g_r 32 #[.int .i64 (d : Int), .int .i64 (n : Int), (.slice B2 T.length b2)] (0, 0) _ rfl (HS.out.at (i := 3) rfl) Try.underlying32 rfl (by kernel_rfl)) rfl ?_
              exact ⟨B2, b2, rfl, HS.out.sel [0] (by decide)⟩
set_option maxHeartbeats 16000000 in
theorem implPutTerm (d n : Int) (A : Option Addr) (c : Nat) (l : Ts) (s : ByteArray) (x y : Int) (w : World) (hr : KT.C w A l.length l) (hc : l.length ≤ c) (hb : bnd l = true) (hsz : s.size ≤ 1048576) :
    Calls Try.prog 58 #[.agg #[.int .i64 d, .int .i64 n, .slice A l.length c], .string s, .agg #[.int .i64 x, .int .i64 y]] w (RetS w (putR d n l s x y)) := by
  have HR := Aside0.mk hr
  have HB := Aside0.mk hb
  have HS := Aside0.mk (Sep.refl w)
  clear hr hb
  unfold putR
  cases h : isS d n l with
  | false =>
    go_enter Try.func58, Try.ntmps58
    go_wp2_with (first | ((with_reducible refine gate_dst (N := 3) rfl ?_); refine wpList_stp (fun K hK => ?_); refine stp_box (by rfl) HS (cs := #[.int .i64 d, .int .i64 n, .slice A l.length c]) (t := 32) (by first | (go_simp; done) | (go_simp; rfl)) ?_; clear HS; intro g_p w1 hg_p HS; refine hK _ _ ?_; clear hK K) | ((with_reducible refine gate_dst (N := 5) rfl ?_); refine wpList_stp (fun K hK => ?_); refine stp_box (by rfl) HS (cs := #[.int .i64 x, .int .i64 y]) (t := 24) (by first | (go_simp; done) | (go_simp; rfl)) ?_; clear HS; intro g_a w1 hg_a HS; refine hK _ _ ?_; clear hK K) | ((with_reducible refine gate_dst (N := 6) rfl ?_); refine wpList_stp (fun K hK => ?_); refine stp_box (by rfl) HS (cs := #[(.int .i64 0), (.int .i64 0), (.slice none 0 0)]) (t := 32) (by first | (go_simp; done) | (go_simp; rfl)) ?_; clear HS; intro g_r w1 hg_r HS; refine hK _ _ ?_; clear hK K; have f1_ := HS.out.c 2 0 (v := .int .i64 d) rfl rfl; have f2_ := HS.out.c 2 1 (v := .int .i64 n) rfl rfl; have f3_ := HS.out.c 2 2 (v := .slice A l.length c) rfl rfl) | (go_at_call 42; refine (implIs d n A c l _ (HS.out.oldC HR.out) hc HB.out).mono ?_; rintro e_ w1 ⟨rfl, hb⟩; have n_ := Aside0.mk (HS.out.call hb); clear HS f1_ f2_ f3_ hb; have HS := n_; clear n_) | ((with_reducible refine gate_store (t := 32) (p := 6) rfl ?_); refine wpList_stp (fun K hK => ?_); refine stp_set (by rfl) rfl rfl HS 0 0 (cs' := #[(.int .i64 0), (.int .i64 0), (.slice none 0 0)]) rfl rfl rfl (by kernel_rfl) rfl rfl ?_; clear HS; intro w1 HS; simp only [List.set_cons_zero, List.set_cons_succ] at HS; refine hK _ _ ?_; clear hK K))
    refine bodyPost_ret (results_cell_tmp_row rfl _ _ g_r 32 #[(.int .i64 0), (.int .i64 0), (.slice none 0 0)] (0, 0) _ rfl (HS.out.at (i := 0) rfl) Try.underlying32 rfl (by kernel_rfl)) rfl ?_
    exact ⟨none, 0, rfl, nilS (HS.out.sel [] (by decide))⟩
  | true =>
    cases hf : isFr x y with
    | false =>
      go_enter Try.func58, Try.ntmps58
      go_wp2_with (first | ((with_reducible refine gate_dst (N := 3) rfl ?_); refine wpList_stp (fun K hK => ?_); refine stp_box (by rfl) HS (cs := #[.int .i64 d, .int .i64 n, .slice A l.length c]) (t := 32) (by first | (go_simp; done) | (go_simp; rfl)) ?_; clear HS; intro g_p w1 hg_p HS; refine hK _ _ ?_; clear hK K) | ((with_reducible refine gate_dst (N := 5) rfl ?_); refine wpList_stp (fun K hK => ?_); refine stp_box (by rfl) HS (cs := #[.int .i64 x, .int .i64 y]) (t := 24) (by first | (go_simp; done) | (go_simp; rfl)) ?_; clear HS; intro g_a w1 hg_a HS; refine hK _ _ ?_; clear hK K) | ((with_reducible refine gate_dst (N := 6) rfl ?_); refine wpList_stp (fun K hK => ?_); refine stp_box (by rfl) HS (cs := #[(.int .i64 0), (.int .i64 0), (.slice none 0 0)]) (t := 32) (by first | (go_simp; done) | (go_simp; rfl)) ?_; clear HS; intro g_r w1 hg_r HS; refine hK _ _ ?_; clear hK K; have f1_ := HS.out.c 2 0 (v := .int .i64 d) rfl rfl; have f2_ := HS.out.c 2 1 (v := .int .i64 n) rfl rfl; have f3_ := HS.out.c 2 2 (v := .slice A l.length c) rfl rfl) | (go_at_call 42; refine (implIs d n A c l _ (HS.out.oldC HR.out) hc HB.out).mono ?_; rintro e_ w1 ⟨rfl, hb⟩; have n_ := Aside0.mk (HS.out.call hb); clear HS f1_ f2_ f3_ hb; have HS := n_; clear n_; have f1_ := HS.out.c 1 0 (v := .int .i64 x) rfl rfl; have f2_ := HS.out.c 1 1 (v := .int .i64 y) rfl rfl) | (go_at_call 137; refine (implIsFraction x y _).mono ?_; rintro e_ w1 ⟨rfl, hb⟩; have n_ := Aside0.mk (HS.out.call hb); clear HS f1_ f2_ hb; have HS := n_; clear n_) | ((with_reducible refine gate_store (t := 32) (p := 6) rfl ?_); refine wpList_stp (fun K hK => ?_); refine stp_set (by rfl) rfl rfl HS 0 0 (cs' := #[(.int .i64 0), (.int .i64 0), (.slice none 0 0)]) rfl rfl rfl (by kernel_rfl) rfl rfl ?_; clear HS; intro w1 HS; simp only [List.set_cons_zero, List.set_cons_succ] at HS; refine hK _ _ ?_; clear hK K))
      refine bodyPost_ret (results_cell_tmp_row rfl _ _ g_r 32 #[(.int .i64 0), (.int .i64 0), (.slice none 0 0)] (0, 0) _ rfl (HS.out.at (i := 0) rfl) Try.underlying32 rfl (by kernel_rfl)) rfl ?_
      exact ⟨none, 0, rfl, nilS (HS.out.sel [] (by decide))⟩
    | true =>
      have HX := Aside0.mk (isS_t h)
      have hlev := isS_l h
      obtain ⟨d, n, rfl, rfl, hd1, hd3, hn1, hn5⟩ := lev_nat hlev
      have HL := Aside0.mk hlev
      clear hlev
      rw [Int.toNat_natCast, Int.toNat_natCast] at HX
      rw [Int.toNat_natCast, Int.toNat_natCast]
      cases hw : isWd d s && decide (s.size ≤ n) with
      | false =>
        have hnn : ¬ ((s.size : Int) ≤ n ∧ isWd d s = true) := fun h => by
          have h1 : s.size ≤ n := by omega
          simp [h.2, h1] at hw
        rw [if_pos rfl, if_pos rfl, if_neg hnn]
        clear hnn
        go_enter Try.func58, Try.ntmps58
        go_wp2_with (first | ((with_reducible refine gate_dst (N := 3) rfl ?_); refine wpList_stp (fun K hK => ?_); refine stp_box (by rfl) HS (cs := #[.int .i64 (d : Int), .int .i64 (n : Int), .slice A l.length c]) (t := 32) (by first | (go_simp; done) | (go_simp; rfl)) ?_; clear HS; intro g_p w1 hg_p HS; refine hK _ _ ?_; clear hK K) | ((with_reducible refine gate_dst (N := 5) rfl ?_); refine wpList_stp (fun K hK => ?_); refine stp_box (by rfl) HS (cs := #[.int .i64 x, .int .i64 y]) (t := 24) (by first | (go_simp; done) | (go_simp; rfl)) ?_; clear HS; intro g_a w1 hg_a HS; refine hK _ _ ?_; clear hK K) | ((with_reducible refine gate_dst (N := 6) rfl ?_); refine wpList_stp (fun K hK => ?_); refine stp_box (by rfl) HS (cs := #[(.int .i64 0), (.int .i64 0), (.slice none 0 0)]) (t := 32) (by first | (go_simp; done) | (go_simp; rfl)) ?_; clear HS; intro g_r w1 hg_r HS; refine hK _ _ ?_; clear hK K; have f1_ := HS.out.c 2 0 (v := .int .i64 (d : Int)) rfl rfl; have f2_ := HS.out.c 2 1 (v := .int .i64 (n : Int)) rfl rfl; have f3_ := HS.out.c 2 2 (v := .slice A l.length c) rfl rfl) | (go_at_call 42; refine (implIs d n A c l _ (HS.out.oldC HR.out) hc HB.out).mono ?_; rintro e_ w1 ⟨rfl, hb⟩; have n_ := Aside0.mk (HS.out.call hb); clear HS f1_ f2_ f3_ hb; have HS := n_; clear n_; have f1_ := HS.out.c 1 0 (v := .int .i64 x) rfl rfl; have f2_ := HS.out.c 1 1 (v := .int .i64 y) rfl rfl) | (go_at_call 137; refine (implIsFraction x y _).mono ?_; rintro e_ w1 ⟨rfl, hb⟩; have n_ := Aside0.mk (HS.out.call hb); clear HS f1_ f2_ hb; have HS := n_; clear n_; have f1_ := HS.out.c 2 0 (v := .int .i64 (d : Int)) rfl rfl; have f2_ := HS.out.c 2 1 (v := .int .i64 (n : Int)) rfl rfl) | (go_at_call 125; refine (implWord d n (by omega) s (by omega) _).mono ?_; rintro e_ w1 ⟨rfl, hb⟩; have n_ := Aside0.mk (HS.out.call hb); clear HS f1_ f2_ hb; have HS := n_; clear n_) | ((with_reducible refine gate_store (t := 32) (p := 6) rfl ?_); refine wpList_stp (fun K hK => ?_); refine stp_set (by rfl) rfl rfl HS 0 0 (cs' := #[(.int .i64 0), (.int .i64 0), (.slice none 0 0)]) rfl rfl rfl (by kernel_rfl) rfl rfl ?_; clear HS; intro w1 HS; simp only [List.set_cons_zero, List.set_cons_succ] at HS; refine hK _ _ ?_; clear hK K))
        refine bodyPost_ret (results_cell_tmp_row rfl _ _ g_r 32 #[(.int .i64 0), (.int .i64 0), (.slice none 0 0)] (0, 0) _ rfl (HS.out.at (i := 0) rfl) Try.underlying32 rfl (by kernel_rfl)) rfl ?_
        exact ⟨none, 0, rfl, nilS (HS.out.sel [] (by decide))⟩
      | true =>
        have hw2 := hw
        rw [Bool.and_eq_true, decide_eq_true_eq] at hw2
        have HW := Aside0.mk hw2
        have hnn : (s.size : Int) ≤ n ∧ isWd d s = true := ⟨by omega, hw2.1⟩
        rw [if_pos rfl, if_pos rfl, if_pos hnn]
        have hlt : num d s < nW d n := num_lt' hw2.1 hw2.2
        have hs5 : s.size ≤ 5 := by have := hw2.2; omega
        clear hnn hw2
        obtain ⟨k, hk⟩ : ∃ k, num d s = k := ⟨_, rfl⟩
        have CN := fun W => (hk ▸ implNumber d s W hd1 hd3 HW.out.1 hs5 : Calls Try.prog 138 #[.int .i64 (d : Int), .string s] W fun e w' => e = .returned (.int .i64 ((k : Nat) : Int)) ∧ Below W.heap.size W w')
        have HCN := Aside0.mk CN
        have HK := Aside0.mk hk
        rw [hk] at hlt
        clear CN hk
        have CO := fun W h => implOpen d n A c l W HL.out h HX.out
        have HCO := Aside0.mk CO
        have HTo := Aside0.mk (fun g v f W h1 h2 => implTold g v d n false f W HL.out h1 h2)
        obtain ⟨N, hN⟩ : ∃ N, N = nW d n := ⟨_, rfl⟩
        rw [← hN] at hlt HCO HTo
        clear hN CO
        have hq0 : (0 : Int) ≤ k := by omega
        have hq1 : (k : Int) < N := by omega
        obtain ⟨f, hfe⟩ : ∃ f, f = upd (co l) s (x, y) := ⟨_, rfl⟩
        have HFE := Aside0.mk hfe
        rw [← hfe]
        clear hfe
        go_enter Try.func58, Try.ntmps58
        go_wp2_with (first | ((with_reducible refine gate_dst (N := 3) rfl ?_); refine wpList_stp (fun K hK => ?_); refine stp_box (by rfl) HS (cs := #[.int .i64 (d : Int), .int .i64 (n : Int), .slice A l.length c]) (t := 32) (by first | (go_simp; done) | (go_simp; rfl)) ?_; clear HS; intro g_p w1 hg_p HS; refine hK _ _ ?_; clear hK K) | ((with_reducible refine gate_dst (N := 5) rfl ?_); refine wpList_stp (fun K hK => ?_); refine stp_box (by rfl) HS (cs := #[.int .i64 x, .int .i64 y]) (t := 24) (by first | (go_simp; done) | (go_simp; rfl)) ?_; clear HS; intro g_a w1 hg_a HS; refine hK _ _ ?_; clear hK K) | ((with_reducible refine gate_dst (N := 6) rfl ?_); refine wpList_stp (fun K hK => ?_); refine stp_box (by rfl) HS (cs := #[(.int .i64 0), (.int .i64 0), (.slice none 0 0)]) (t := 32) (by first | (go_simp; done) | (go_simp; rfl)) ?_; clear HS; intro g_r w1 hg_r HS; refine hK _ _ ?_; clear hK K; have f1_ := HS.out.c 2 0 (v := .int .i64 (d : Int)) rfl rfl; have f2_ := HS.out.c 2 1 (v := .int .i64 (n : Int)) rfl rfl; have f3_ := HS.out.c 2 2 (v := .slice A l.length c) rfl rfl) | (go_at_call 42; refine (implIs d n A c l _ (HS.out.oldC HR.out) hc HB.out).mono ?_; rintro e_ w1 ⟨rfl, hb⟩; have n_ := Aside0.mk (HS.out.call hb); clear HS f1_ f2_ f3_ hb; have HS := n_; clear n_; have f1_ := HS.out.c 1 0 (v := .int .i64 x) rfl rfl; have f2_ := HS.out.c 1 1 (v := .int .i64 y) rfl rfl) | (go_at_call 137; refine (implIsFraction x y _).mono ?_; rintro e_ w1 ⟨rfl, hb⟩; have n_ := Aside0.mk (HS.out.call hb); clear HS f1_ f2_ hb; have HS := n_; clear n_; have f1_ := HS.out.c 2 0 (v := .int .i64 (d : Int)) rfl rfl; have f2_ := HS.out.c 2 1 (v := .int .i64 (n : Int)) rfl rfl) | (go_at_call 125; refine (implWord d n (by omega) s (by omega) _).mono ?_; rintro e_ w1 ⟨rfl, hb⟩; have n_ := Aside0.mk (HS.out.call hb); clear HS f1_ f2_ hb; have HS := n_; clear n_; have f1_ := HS.out.c 2 0 (v := .int .i64 (d : Int)) rfl rfl; have f2_ := HS.out.c 2 1 (v := .int .i64 (n : Int)) rfl rfl; have f3_ := HS.out.c 2 2 (v := .slice A l.length c) rfl rfl) | (go_at_call 126; refine (HCO.out _ (HS.out.oldC HR.out)).mono ?_; rintro e_ w1 ⟨g, v, rfl, hs⟩; have n_ := Aside0.mk (HS.out.new hs); clear HS f1_ f2_ f3_ hs; have HS := n_; clear n_; simp only [List.cons_append, List.nil_append] at HS))
        have n_ := Aside0.mk HS.out.drew
        clear HS
        have HS := n_
        clear n_
        refine plan_start (.p 0 (.p 1 (.p 2 (.p 4 (.p 5 (.p 6 (.p 8 (.t 3 (.t 7 (.t 10 (.e 9 (.p 11 (.d 12 .done))))))))))))) (fun w' => w'.cell? ⟨g, 2, none⟩ = some (.slice (some ⟨v, 0, none⟩) N N) ∧ w'.cell? ⟨g, 0, none⟩ = some (.int .i64 (d : Int)) ∧ w'.cell? ⟨g_a, 0, none⟩ = some (.int .i64 x) ∧ w'.cell? ⟨g_a, 1, none⟩ = some (.int .i64 y)) [12] (by kernel_rfl) (by kernel_rfl) (fun c_ a_ d_ v_ w_ h_ => by cases d_ <;> exact h_) ⟨HS.out.c 0 2 (v := .slice (some ⟨v, 0, none⟩) N N) rfl rfl, HS.out.c 0 0 (v := .int .i64 (d : Int)) rfl rfl, HS.out.c 3 0 (v := .int .i64 x) rfl rfl, HS.out.c 3 1 (v := .int .i64 y) rfl rfl⟩ (fun hHeld => ?_)
        repeat (first | ((with_reducible refine gate_p ?_); refine run_p (v := ?_) rfl rfl (Or.inl ⟨by rfl, ?_⟩) (a' := ?_) ?_ ?_; rotate_left; (· (intro w'; first | (go_simp; with_reducible rfl) | (go_simp; done))); rotate_left; (· first | (simp only [Act.put, List.setIfInBounds_toArray, List.set_cons_zero, List.set_cons_succ, i64_w, i32_w]; rfl) | simp only [Act.put, List.setIfInBounds_toArray, List.set_cons_zero, List.set_cons_succ, i64_w, i32_w])) | ((with_reducible refine gate_t ?_); refine run_t (v := ?_) rfl rfl hHeld (Or.inl ⟨by rfl, ?_⟩) (a' := ?_) ?_ ?_; rotate_left; (· (intro w' hS_; first | (go_simp; with_reducible rfl) | (go_simp; done))); rotate_left; (· first | (simp only [Act.put, List.setIfInBounds_toArray, List.set_cons_zero, List.set_cons_succ, i64_w, i32_w]; rfl) | simp only [Act.put, List.setIfInBounds_toArray, List.set_cons_zero, List.set_cons_succ, i64_w, i32_w])))
        refine run_e rfl (fun K hK => ?_)
        refine goes_ Try.func138 (by kernel_rfl) rfl #[(.int .i64 (d : Int)), (.string s)] (by rfl) rfl rfl (by simp only [List.map_toArray, List.map_cons, List.map_nil]; rfl) ?_
        refine (HCN.out _).mono ?_
        rintro e_ w1 ⟨rfl, hb⟩
        refine ⟨_, rfl, ?_⟩
        have n_ := Aside0.mk (HS.out.call hb)
        clear HS hb
        have HS := n_
        clear n_
        refine goE hK ⟨HS.out.c 0 2 (v := .slice (some ⟨v, 0, none⟩) N N) rfl rfl, HS.out.c 0 0 (v := .int .i64 (d : Int)) rfl rfl, HS.out.c 3 0 (v := .int .i64 x) rfl rfl, HS.out.c 3 1 (v := .int .i64 y) rfl rfl⟩ (a' := ?_) ?_ (fun hHeld => ?_)
        rotate_left
        · first | (simp only [Act.put, List.setIfInBounds_toArray, List.set_cons_zero, List.set_cons_succ, i64_w, i32_w]; rfl) | simp only [Act.put, List.setIfInBounds_toArray, List.set_cons_zero, List.set_cons_succ, i64_w, i32_w]
        clear hK K
        repeat (first | ((with_reducible refine gate_p ?_); refine run_p (v := ?_) rfl rfl (Or.inl ⟨by rfl, ?_⟩) (a' := ?_) ?_ ?_; rotate_left; (· (intro w'; first | (go_simp; with_reducible rfl) | (go_simp; done))); rotate_left; (· first | (simp only [Act.put, List.setIfInBounds_toArray, List.set_cons_zero, List.set_cons_succ, i64_w, i32_w]; rfl) | simp only [Act.put, List.setIfInBounds_toArray, List.set_cons_zero, List.set_cons_succ, i64_w, i32_w])) | ((with_reducible refine gate_t ?_); refine run_t (v := ?_) rfl rfl hHeld (Or.inl ⟨by rfl, ?_⟩) (a' := ?_) ?_ ?_; rotate_left; (· (intro w' hS_; first | (go_simp; with_reducible rfl) | (go_simp; done))); rotate_left; (· first | (simp only [Act.put, List.setIfInBounds_toArray, List.set_cons_zero, List.set_cons_succ, i64_w, i32_w]; rfl) | simp only [Act.put, List.setIfInBounds_toArray, List.set_cons_zero, List.set_cons_succ, i64_w, i32_w])))
        refine run_d rfl (fun K hK => ?_)
        refine stp_put_tab (by rfl) rfl rfl HS 1 rfl s (by omega) HW.out.1 HW.out.2 HK.out (x, y) rfl rfl (by kernel_rfl) ?_
        clear HS
        intro w1 HS
        simp only [List.set_cons_zero, List.set_cons_succ] at HS
        rw [← HFE.out] at HS
        refine goD hK rfl ?_
        clear hK K
        refine run_done ?_
        clear hHeld
        go_wp2_with (first | (go_at_call 116; refine (HTo.out g v f _ (HS.out.at (i := 0) rfl) (HS.out.at (i := 1) rfl)).mono ?_; rintro e_ w1 ⟨B, b, rfl, hs⟩; have n_ := Aside0.mk (HS.out.new hs); clear HS hs; have HS := n_; clear n_; simp only [List.cons_append, List.nil_append] at HS) | ((with_reducible refine gate_store (t := 32) (p := 6) rfl ?_); refine wpList_stp (fun K hK => ?_); refine stp_set (by rfl) rfl rfl HS 3 0 (cs' := #[.int .i64 (d : Int), .int .i64 (n : Int), .slice B (tabT d n f).length b]) rfl rfl rfl (by kernel_rfl) rfl rfl ?_; clear HS; intro w1 HS; simp only [List.set_cons_zero, List.set_cons_succ] at HS; refine hK _ _ ?_; clear hK K))
        refine bodyPost_ret (results_cell_tmp_row rfl _ _ g_r 32 #[.int .i64 (d : Int), .int .i64 (n : Int), .slice B (tabT d n f).length b] (0, 0) _ rfl (HS.out.at (i := 3) rfl) Try.underlying32 rfl (by kernel_rfl)) rfl ?_
        exact ⟨B, b, rfl, HS.out.sel [0] (by decide)⟩
end Go.Proofs.Ytcklblagklojhaa.H

