/- AddSeries: what the program and the reference return. Conditions: the bounds that stand in each statement. -/
import Derived.Test.YtcklblagklojhaaKSum
namespace Go.Proofs.Ytcklblagklojhaa.M
def addR (d n : Int) (l : Ts) (d2 n2 : Int) (l2 : Ts) : Rs := if codeR d n l d2 n2 l2 = 0 then resO d n (sumS l l2) else noS (codeR d n l d2 n2 l2)
theorem codeR_zero {d n : Int} {l : Ts} {d2 n2 : Int} {l2 : Ts} (h : codeR d n l d2 n2 l2 = 0) : isS d n l = true ∧ isS d2 n2 l2 = true ∧ d = d2 ∧ n = n2 := by
  unfold codeR at h
  split at h
  · rename_i h1
    split at h
    · rename_i h2
      split at h
      · rename_i h3; exact ⟨h1, h2, h3.1, h3.2⟩
      · cases h
    · cases h
  · cases h
theorem add_len {d n : Int} {l : Ts} {d2 n2 : Int} {l2 : Ts} : (addR d n l d2 n2 l2).2.2.1.length ≤ 1048576 := by
  unfold addR
  split
  · rename_i h
    obtain ⟨h1, h2, h3, h4⟩ := codeR_zero h
    subst h3 h4
    obtain ⟨⟨e1, e2⟩, ⟨e3, e4⟩, _⟩ := lev_iff.1 (isS_l h1)
    exact resO_len (by omega) (by omega) (sum_relS (by omega) (isS_t h1) (isS_t h2))
  · show (0 : Nat) ≤ _; decide
end Go.Proofs.Ytcklblagklojhaa.M
namespace Go.Proofs.Ytcklblagklojhaa.H
open Go.RowKit Go.Proofs.YtcklblagklojhaaW.PrintWords Go.Proofs.YtcklblagklojhaaW.PrintLast Go.Proofs.YtcklblagklojhaaW.PrintMore Go.Proofs.Ytcklblagklojhaa.M
attribute [local go_sem] max2_int min2_int max_two min_two max_three min_three max_four min_four resQ
set_option linter.unusedVariables false
set_option linter.unusedSimpArgs false
set_option maxRecDepth 100000
set_option maxHeartbeats 8000000 in
theorem specAddSeries (d n : Int) (A : Option Addr) (c : Nat) (l : Ts) (d2 n2 : Int) (A2 : Option Addr) (cc : Nat) (l2 : Ts) (w : World) (hr : KT.C w A l.length l) (hc : l.length ≤ c) (hb : bnd l = true) (hr2 : KT.C w A2 l2.length l2) (hcc : l2.length ≤ cc) (hb2 : bnd l2 = true) :
    Calls Try.prog 67 #[.agg #[.int .i64 d, .int .i64 n, .slice A l.length c], .agg #[.int .i64 d2, .int .i64 n2, .slice A2 l2.length cc]] w (RetS w (addR d n l d2 n2 l2)) := by
  have HR := Aside0.mk hr
  have HB := Aside0.mk hb
  have HR2 := Aside0.mk hr2
  have HB2 := Aside0.mk hb2
  have HS := Aside0.mk (Sep.refl w)
  clear hr hb hr2 hb2
  have HC := Aside0.mk (fun q W k1 k2 k3 => specCode d n A c l d2 n2 A2 cc l2 q W k1 hc HB.out k2 hcc HB2.out k3)
  unfold addR
  obtain ⟨k, hk⟩ : ∃ k, k = codeR d n l d2 n2 l2 := ⟨_, rfl⟩
  rw [← hk] at HC
  rw [← hk]
  by_cases h0 : k = 0
  · subst h0
    obtain ⟨h1, h2, h3, h4⟩ := codeR_zero hk.symm
    subst h3 h4
    clear hk
    obtain ⟨d, n, rfl, rfl, hd1, hd3, hn1, hn5⟩ := lev_nat (isS_l h1)
    have HP := Aside0.mk (fun W k1 k2 => specSum d n hd3 hn5 A c l d n A2 cc l2 W k1 k2 (isS_t h1) (isS_t h2))
    clear h1 h2
    rw [if_pos rfl]
    obtain ⟨o, ho⟩ : ∃ o, o = sumS l l2 := ⟨_, rfl⟩
    rw [← ho] at HP
    rw [← ho]
    clear ho
    cases o with
    | none =>
      go_enter Try.func67, Try.ntmps67
      go_wp2_with (first | ((with_reducible refine gate_dst (N := 2) rfl ?_); refine wpList_stp (fun K hK => ?_); refine stp_box (by rfl) HS (cs := #[.int .i64 (d : Int), .int .i64 (n : Int), .slice A l.length c]) (t := 32) (by first | (go_simp; done) | (go_simp; rfl)) ?_; clear HS; intro g_p w1 hg_p HS; refine hK _ _ ?_; clear hK K) | ((with_reducible refine gate_dst (N := 3) rfl ?_); refine wpList_stp (fun K hK => ?_); refine stp_box (by rfl) HS (cs := #[.int .i64 (d : Int), .int .i64 (n : Int), .slice A2 l2.length cc]) (t := 32) (by first | (go_simp; done) | (go_simp; rfl)) ?_; clear HS; intro g_a w1 hg_a HS; refine hK _ _ ?_; clear hK K) | ((with_reducible refine gate_dst (N := 4) rfl ?_); refine wpList_stp (fun K hK => ?_); refine stp_box (by rfl) HS (cs := #[(.int .i64 0), (.int .i64 0), (.slice none 0 0)]) (t := 32) (by first | (go_simp; done) | (go_simp; rfl)) ?_; clear HS; intro g_r w1 hg_r HS; refine hK _ _ ?_; clear hK K; have f1_ := HS.out.c 2 0 (v := .int .i64 (d : Int)) rfl rfl; have f2_ := HS.out.c 2 1 (v := .int .i64 (n : Int)) rfl rfl; have f3_ := HS.out.c 2 2 (v := .slice A l.length c) rfl rfl; have f4_ := HS.out.c 1 0 (v := .int .i64 (d : Int)) rfl rfl; have f5_ := HS.out.c 1 1 (v := .int .i64 (n : Int)) rfl rfl; have f6_ := HS.out.c 1 2 (v := .slice A2 l2.length cc) rfl rfl) | ((with_reducible refine gate_dst (N := 11) rfl ?_); refine wpList_stp (fun K hK => ?_); refine stp_bs (by rfl) HS (cs := #[.int .i64 (d : Int), .int .i64 (n : Int), .slice A2 l2.length cc]) (t := 32) (m := 1) (by first | (go_simp; done) | (go_simp; rfl)) ?_; clear HS f1_ f2_ f3_ f4_ f5_ f6_; intro g_v w1 hg_v HS; refine hK _ _ ?_; clear hK K) | (go_at_call 132; refine (HC.out g_v _ (HS.out.oldC HR.out) (HS.out.oldC HR2.out) (HS.out.at (i := 0) rfl)).mono ?_; rintro e_ w1 ⟨rfl, hb⟩; have n_ := Aside0.mk (HS.out.call hb); clear HS hb; have HS := n_; clear n_; have f1_ := HS.out.c 3 0 (v := .int .i64 (d : Int)) rfl rfl; have f2_ := HS.out.c 3 1 (v := .int .i64 (n : Int)) rfl rfl; have f3_ := HS.out.c 3 2 (v := .slice A l.length c) rfl rfl; have f4_ := HS.out.c 2 0 (v := .int .i64 (d : Int)) rfl rfl; have f5_ := HS.out.c 2 1 (v := .int .i64 (n : Int)) rfl rfl; have f6_ := HS.out.c 2 2 (v := .slice A2 l2.length cc) rfl rfl) | (go_at_call 145; refine (HP.out _ (HS.out.oldC HR.out) (HS.out.oldC HR2.out)).mono ?_; rintro e_ w1 ⟨B, b, rfl, hs⟩; have n_ := Aside0.mk (HS.out.new hs); clear HS f1_ f2_ f3_ f4_ f5_ f6_ hs; have HS := n_; clear n_; simp only [List.cons_append, List.nil_append] at HS) | ((with_reducible refine gate_dst (N := 7) rfl ?_); refine wpList_stp (fun K hK => ?_); refine stp_box (by rfl) HS (cs := #[(.int .i64 0), (.int .i64 0), (.slice none 0 0)]) (t := 32) (by first | (go_simp; done) | (go_simp; rfl)) ?_; clear HS; intro g_q w1 hg_q HS; refine hK _ _ ?_; clear hK K) | ((with_reducible refine gate_store (t := 32) (p := 7) rfl ?_); refine wpList_stp (fun K hK => ?_); refine stp_set (by rfl) rfl rfl HS 0 0 (cs' := #[.int .i64 0, .int .i64 0, .slice B ([] : Ts).length b]) rfl rfl rfl (by kernel_rfl) rfl rfl ?_; clear HS; intro w1 HS; simp only [List.set_cons_zero, List.set_cons_succ] at HS; refine hK _ _ ?_; clear hK K) | ((with_reducible refine gate_store (t := 32) (p := 4) rfl ?_); refine wpList_stp (fun K hK => ?_); refine stp_set (by rfl) rfl rfl HS 3 0 (cs' := #[(.int .i64 0), (.int .i64 0), (.slice none 0 0)]) rfl rfl rfl (by kernel_rfl) rfl rfl ?_; clear HS; intro w1 HS; simp only [List.set_cons_zero, List.set_cons_succ] at HS; refine hK _ _ ?_; clear hK K))
      refine bodyPost_ret (results_cell_tmp_row rfl _ _ g_r 32 #[(.int .i64 0), (.int .i64 0), (.slice none 0 0)] (0, 0) _ rfl (HS.out.at (i := 3) rfl) Try.underlying32 rfl (by kernel_rfl)) rfl ?_
      exact ⟨none, 0, rfl, nilS (HS.out.sel [] (by decide))⟩
    | some z =>
      go_enter Try.func67, Try.ntmps67
      go_wp2_with (first | ((with_reducible refine gate_dst (N := 2) rfl ?_); refine wpList_stp (fun K hK => ?_); refine stp_box (by rfl) HS (cs := #[.int .i64 (d : Int), .int .i64 (n : Int), .slice A l.length c]) (t := 32) (by first | (go_simp; done) | (go_simp; rfl)) ?_; clear HS; intro g_p w1 hg_p HS; refine hK _ _ ?_; clear hK K) | ((with_reducible refine gate_dst (N := 3) rfl ?_); refine wpList_stp (fun K hK => ?_); refine stp_box (by rfl) HS (cs := #[.int .i64 (d : Int), .int .i64 (n : Int), .slice A2 l2.length cc]) (t := 32) (by first | (go_simp; done) | (go_simp; rfl)) ?_; clear HS; intro g_a w1 hg_a HS; refine hK _ _ ?_; clear hK K) | ((with_reducible refine gate_dst (N := 4) rfl ?_); refine wpList_stp (fun K hK => ?_); refine stp_box (by rfl) HS (cs := #[(.int .i64 0), (.int .i64 0), (.slice none 0 0)]) (t := 32) (by first | (go_simp; done) | (go_simp; rfl)) ?_; clear HS; intro g_r w1 hg_r HS; refine hK _ _ ?_; clear hK K; have f1_ := HS.out.c 2 0 (v := .int .i64 (d : Int)) rfl rfl; have f2_ := HS.out.c 2 1 (v := .int .i64 (n : Int)) rfl rfl; have f3_ := HS.out.c 2 2 (v := .slice A l.length c) rfl rfl; have f4_ := HS.out.c 1 0 (v := .int .i64 (d : Int)) rfl rfl; have f5_ := HS.out.c 1 1 (v := .int .i64 (n : Int)) rfl rfl; have f6_ := HS.out.c 1 2 (v := .slice A2 l2.length cc) rfl rfl) | ((with_reducible refine gate_dst (N := 11) rfl ?_); refine wpList_stp (fun K hK => ?_); refine stp_bs (by rfl) HS (cs := #[.int .i64 (d : Int), .int .i64 (n : Int), .slice A2 l2.length cc]) (t := 32) (m := 1) (by first | (go_simp; done) | (go_simp; rfl)) ?_; clear HS f1_ f2_ f3_ f4_ f5_ f6_; intro g_v w1 hg_v HS; refine hK _ _ ?_; clear hK K) | (go_at_call 132; refine (HC.out g_v _ (HS.out.oldC HR.out) (HS.out.oldC HR2.out) (HS.out.at (i := 0) rfl)).mono ?_; rintro e_ w1 ⟨rfl, hb⟩; have n_ := Aside0.mk (HS.out.call hb); clear HS hb; have HS := n_; clear n_; have f1_ := HS.out.c 3 0 (v := .int .i64 (d : Int)) rfl rfl; have f2_ := HS.out.c 3 1 (v := .int .i64 (n : Int)) rfl rfl; have f3_ := HS.out.c 3 2 (v := .slice A l.length c) rfl rfl; have f4_ := HS.out.c 2 0 (v := .int .i64 (d : Int)) rfl rfl; have f5_ := HS.out.c 2 1 (v := .int .i64 (n : Int)) rfl rfl; have f6_ := HS.out.c 2 2 (v := .slice A2 l2.length cc) rfl rfl) | (go_at_call 145; refine (HP.out _ (HS.out.oldC HR.out) (HS.out.oldC HR2.out)).mono ?_; rintro e_ w1 ⟨B, b, rfl, hs⟩; have n_ := Aside0.mk (HS.out.new hs); clear HS f1_ f2_ f3_ f4_ f5_ f6_ hs; have HS := n_; clear n_; simp only [List.cons_append, List.nil_append] at HS) | ((with_reducible refine gate_dst (N := 7) rfl ?_); refine wpList_stp (fun K hK => ?_); refine stp_box (by rfl) HS (cs := #[(.int .i64 0), (.int .i64 0), (.slice none 0 0)]) (t := 32) (by first | (go_simp; done) | (go_simp; rfl)) ?_; clear HS; intro g_q w1 hg_q HS; refine hK _ _ ?_; clear hK K) | ((with_reducible refine gate_store (t := 32) (p := 7) rfl ?_); refine wpList_stp (fun K hK => ?_); refine stp_set (by rfl) rfl rfl HS 0 0 (cs' := #[.int .i64 (d : Int), .int .i64 (n : Int), .slice B z.length b]) rfl rfl rfl (by kernel_rfl) rfl rfl ?_; clear HS; intro w1 HS; simp only [List.set_cons_zero, List.set_cons_succ] at HS; refine hK _ _ ?_; clear hK K; have f1_ := HS.out.c 0 0 (v := .int .i64 (d : Int)) rfl rfl; have f2_ := HS.out.c 0 1 (v := .int .i64 (n : Int)) rfl rfl; have f3_ := HS.out.c 0 2 (v := .slice B z.length b) rfl rfl) | ((with_reducible refine gate_store (t := 32) (p := 4) rfl ?_); refine wpList_stp (fun K hK => ?_); refine stp_set (by rfl) rfl rfl HS 3 0 (cs' := #[.int .i64 (d : Int), .int .i64 (n : Int), .slice B z.length b]) rfl rfl rfl (by kernel_rfl) rfl rfl ?_; clear HS f1_ f2_ f3_; intro w1 HS; simp only [List.set_cons_zero, List.set_cons_succ] at HS; refine hK _ _ ?_; clear hK K))
      refine bodyPost_ret (results_cell_tmp_row rfl _ _ g_r 32 #[.int .i64 (d : Int), .int .i64 (n : Int), .slice B z.length b] (0, 0) _ rfl (HS.out.at (i := 3) rfl) Try.underlying32 rfl (by kernel_rfl)) rfl ?_
      exact ⟨B, b, rfl, HS.out.sel [1] (by decide)⟩
  · have hkb : (k != 0) = true := by simpa using h0
    rw [if_neg h0]
    clear hk h0
    go_enter Try.func67, Try.ntmps67
    go_wp2_with (first | ((with_reducible refine gate_dst (N := 2) rfl ?_); refine wpList_stp (fun K hK => ?_); refine stp_box (by rfl) HS (cs := #[.int .i64 d, .int .i64 n, .slice A l.length c]) (t := 32) (by first | (go_simp; done) | (go_simp; rfl)) ?_; clear HS; intro g_p w1 hg_p HS; refine hK _ _ ?_; clear hK K) | ((with_reducible refine gate_dst (N := 3) rfl ?_); refine wpList_stp (fun K hK => ?_); refine stp_box (by rfl) HS (cs := #[.int .i64 d2, .int .i64 n2, .slice A2 l2.length cc]) (t := 32) (by first | (go_simp; done) | (go_simp; rfl)) ?_; clear HS; intro g_a w1 hg_a HS; refine hK _ _ ?_; clear hK K) | ((with_reducible refine gate_dst (N := 4) rfl ?_); refine wpList_stp (fun K hK => ?_); refine stp_box (by rfl) HS (cs := #[(.int .i64 0), (.int .i64 0), (.slice none 0 0)]) (t := 32) (by first | (go_simp; done) | (go_simp; rfl)) ?_; clear HS; intro g_r w1 hg_r HS; refine hK _ _ ?_; clear hK K; have f1_ := HS.out.c 2 0 (v := .int .i64 d) rfl rfl; have f2_ := HS.out.c 2 1 (v := .int .i64 n) rfl rfl; have f3_ := HS.out.c 2 2 (v := .slice A l.length c) rfl rfl; have f4_ := HS.out.c 1 0 (v := .int .i64 d2) rfl rfl; have f5_ := HS.out.c 1 1 (v := .int .i64 n2) rfl rfl; have f6_ := HS.out.c 1 2 (v := .slice A2 l2.length cc) rfl rfl) | ((with_reducible refine gate_dst (N := 11) rfl ?_); refine wpList_stp (fun K hK => ?_); refine stp_bs (by rfl) HS (cs := #[.int .i64 d2, .int .i64 n2, .slice A2 l2.length cc]) (t := 32) (m := 1) (by first | (go_simp; done) | (go_simp; rfl)) ?_; clear HS f1_ f2_ f3_ f4_ f5_ f6_; intro g_v w1 hg_v HS; refine hK _ _ ?_; clear hK K) | (go_at_call 132; refine (HC.out g_v _ (HS.out.oldC HR.out) (HS.out.oldC HR2.out) (HS.out.at (i := 0) rfl)).mono ?_; rintro e_ w1 ⟨rfl, hb⟩; have n_ := Aside0.mk (HS.out.call hb); clear HS hb; have HS := n_; clear n_) | ((with_reducible refine gate_store (t := 32) (p := 4) rfl ?_); refine wpList_stp (fun K hK => ?_); refine stp_set (by rfl) rfl rfl HS 1 0 (cs' := #[(.int .i64 0), (.int .i64 0), (.slice none 0 0)]) rfl rfl rfl (by kernel_rfl) rfl rfl ?_; clear HS; intro w1 HS; simp only [List.set_cons_zero, List.set_cons_succ] at HS; refine hK _ _ ?_; clear hK K))
    refine bodyPost_ret (results_cell_tmp_row rfl _ _ g_r 32 #[(.int .i64 0), (.int .i64 0), (.slice none 0 0)] (0, 0) _ rfl (HS.out.at (i := 1) rfl) Try.underlying32 rfl (by kernel_rfl)) rfl ?_
    exact ⟨none, 0, rfl, nilS (HS.out.sel [] (by decide))⟩
set_option maxHeartbeats 8000000 in
theorem implAddSeries (d n : Int) (A : Option Addr) (c : Nat) (l : Ts) (d2 n2 : Int) (A2 : Option Addr) (cc : Nat) (l2 : Ts) (w : World) (hr : KT.C w A l.length l) (hc : l.length ≤ c) (hb : bnd l = true) (hr2 : KT.C w A2 l2.length l2) (hcc : l2.length ≤ cc) (hb2 : bnd l2 = true) :
    Calls Try.prog 68 #[.agg #[.int .i64 d, .int .i64 n, .slice A l.length c], .agg #[.int .i64 d2, .int .i64 n2, .slice A2 l2.length cc]] w (RetS w (addR d n l d2 n2 l2)) := by
  have HR := Aside0.mk hr
  have HB := Aside0.mk hb
  have HR2 := Aside0.mk hr2
  have HB2 := Aside0.mk hb2
  have HS := Aside0.mk (Sep.refl w)
  clear hr hb hr2 hb2
  have HC := Aside0.mk (fun W k1 k2 => implCode d n A c l d2 n2 A2 cc l2 W k1 hc HB.out k2 hcc HB2.out)
  unfold addR
  obtain ⟨k, hk⟩ : ∃ k, k = codeR d n l d2 n2 l2 := ⟨_, rfl⟩
  rw [← hk] at HC
  rw [← hk]
  by_cases h0 : k = 0
  · subst h0
    obtain ⟨h1, h2, h3, h4⟩ := codeR_zero hk.symm
    subst h3 h4
    clear hk
    have HX := Aside0.mk (isS_t h1)
    have HY := Aside0.mk (isS_t h2)
    have hlev := isS_l h1
    obtain ⟨d, n, rfl, rfl, hd1, hd3, hn1, hn5⟩ := lev_nat hlev
    have HL := Aside0.mk hlev
    clear h1 h2 hlev
    rw [Int.toNat_natCast, Int.toNat_natCast] at HX HY
    rw [if_pos rfl]
    have hg : good (mapT d n (fun s => add (co l s) (co l2 s)) false (nW d n)).1 := mapT_good (fun s c h => add_fr h) false _
    have HE := Aside0.mk (Rel.told (by omega) hg (sum_relS (by omega) HX.out HY.out))
    have CS := fun g v g2 v2 W h1 h2 h3 h4 => implSum g v g2 v2 d n false false (co l) (co l2) W HL.out h1 h2 h3 h4 (good_co HX.out) (good_co HY.out)
    have HCS := Aside0.mk CS
    clear CS hg
    rw [Bool.or_false] at HCS
    obtain ⟨F, hF⟩ : ∃ F, F = mapT d n (fun s => add (co l s) (co l2 s)) false (nW d n) := ⟨_, rfl⟩
    rw [← hF] at HE HCS
    clear hF
    have HTo := Aside0.mk (fun g v W h1 h2 => HE.out ▸ implTold g v d n F.2 F.1 W HL.out h1 h2)
    clear HE
    obtain ⟨o, ho⟩ : ∃ o, o = sumS l l2 := ⟨_, rfl⟩
    rw [← ho] at HTo
    rw [← ho]
    clear ho
    go_enter Try.func68, Try.ntmps68
    go_wp2_with (first | ((with_reducible refine gate_dst (N := 2) rfl ?_); refine wpList_stp (fun K hK => ?_); refine stp_box (by rfl) HS (cs := #[.int .i64 (d : Int), .int .i64 (n : Int), .slice A l.length c]) (t := 32) (by first | (go_simp; done) | (go_simp; rfl)) ?_; clear HS; intro g_p w1 hg_p HS; refine hK _ _ ?_; clear hK K) | ((with_reducible refine gate_dst (N := 3) rfl ?_); refine wpList_stp (fun K hK => ?_); refine stp_box (by rfl) HS (cs := #[.int .i64 (d : Int), .int .i64 (n : Int), .slice A2 l2.length cc]) (t := 32) (by first | (go_simp; done) | (go_simp; rfl)) ?_; clear HS; intro g_a w1 hg_a HS; refine hK _ _ ?_; clear hK K) | ((with_reducible refine gate_dst (N := 4) rfl ?_); refine wpList_stp (fun K hK => ?_); refine stp_box (by rfl) HS (cs := #[(.int .i64 0), (.int .i64 0), (.slice none 0 0)]) (t := 32) (by first | (go_simp; done) | (go_simp; rfl)) ?_; clear HS; intro g_r w1 hg_r HS; refine hK _ _ ?_; clear hK K; have f1_ := HS.out.c 2 0 (v := .int .i64 (d : Int)) rfl rfl; have f2_ := HS.out.c 2 1 (v := .int .i64 (n : Int)) rfl rfl; have f3_ := HS.out.c 2 2 (v := .slice A l.length c) rfl rfl; have f4_ := HS.out.c 1 0 (v := .int .i64 (d : Int)) rfl rfl; have f5_ := HS.out.c 1 1 (v := .int .i64 (n : Int)) rfl rfl; have f6_ := HS.out.c 1 2 (v := .slice A2 l2.length cc) rfl rfl) | (go_at_call 134; refine (HC.out _ (HS.out.oldC HR.out) (HS.out.oldC HR2.out)).mono ?_; rintro e_ w1 ⟨rfl, hb⟩; have n_ := Aside0.mk (HS.out.call hb); clear HS f1_ f2_ f3_ f4_ f5_ f6_ hb; have HS := n_; clear n_))
    have n_ := Aside0.mk HS.out.drew
    clear HS
    have HS := n_
    clear n_
    refine plan_start (.t 0 (.t 2 (.e 1 (.d 3 (.d 4 (.d 5 (.p 6 (.p 7 (.d 8 (.p 9 .done)))))))))) (fun w' => w'.cell? ⟨g_p, 0, none⟩ = some (.int .i64 (d : Int)) ∧ w'.cell? ⟨g_p, 1, none⟩ = some (.int .i64 (n : Int)) ∧ w'.cell? ⟨g_p, 2, none⟩ = some (.slice A l.length c) ∧ w'.cell? ⟨g_a, 0, none⟩ = some (.int .i64 (d : Int)) ∧ w'.cell? ⟨g_a, 1, none⟩ = some (.int .i64 (n : Int)) ∧ w'.cell? ⟨g_a, 2, none⟩ = some (.slice A2 l2.length cc)) [3, 4, 5, 8] (by kernel_rfl) (by kernel_rfl) (fun c_ a_ d_ v_ w_ h_ => by cases d_ <;> exact h_) ⟨HS.out.c 2 0 (v := .int .i64 (d : Int)) rfl rfl, HS.out.c 2 1 (v := .int .i64 (n : Int)) rfl rfl, HS.out.c 2 2 (v := .slice A l.length c) rfl rfl, HS.out.c 1 0 (v := .int .i64 (d : Int)) rfl rfl, HS.out.c 1 1 (v := .int .i64 (n : Int)) rfl rfl, HS.out.c 1 2 (v := .slice A2 l2.length cc) rfl rfl⟩ (fun hHeld => ?_)
    repeat (first | ((with_reducible refine gate_p ?_); refine run_p (v := ?_) rfl rfl (Or.inl ⟨by rfl, ?_⟩) (a' := ?_) ?_ ?_; rotate_left; (· (intro w'; first | (go_simp; with_reducible rfl) | (go_simp; done))); rotate_left; (· first | (simp only [Act.put, List.setIfInBounds_toArray, List.set_cons_zero, List.set_cons_succ, i64_w, i32_w]; rfl) | simp only [Act.put, List.setIfInBounds_toArray, List.set_cons_zero, List.set_cons_succ, i64_w, i32_w])) | ((with_reducible refine gate_t ?_); refine run_t (v := ?_) rfl rfl hHeld (Or.inl ⟨by rfl, ?_⟩) (a' := ?_) ?_ ?_; rotate_left; (· (intro w' hS_; first | (go_simp; with_reducible rfl) | (go_simp; done))); rotate_left; (· first | (simp only [Act.put, List.setIfInBounds_toArray, List.set_cons_zero, List.set_cons_succ, i64_w, i32_w]; rfl) | simp only [Act.put, List.setIfInBounds_toArray, List.set_cons_zero, List.set_cons_succ, i64_w, i32_w])))
    refine run_e rfl (fun K hK => ?_)
    refine goes_ Try.func126 (by kernel_rfl) rfl #[.agg #[.int .i64 (d : Int), .int .i64 (n : Int), .slice A l.length c]] (by rfl) rfl rfl (by simp only [List.map_toArray, List.map_cons, List.map_nil]; rfl) ?_
    refine (implOpen d n A c l _ HL.out (HS.out.oldC HR.out) HX.out).mono ?_
    rintro e_ w1 ⟨g, v, rfl, hs⟩
    refine ⟨_, rfl, ?_⟩
    have n_ := Aside0.mk (HS.out.new hs)
    clear HS hs
    have HS := n_
    clear n_
    simp only [List.cons_append, List.nil_append] at HS
    refine goE hK ⟨HS.out.c 4 0 (v := .int .i64 (d : Int)) rfl rfl, HS.out.c 4 1 (v := .int .i64 (n : Int)) rfl rfl, HS.out.c 4 2 (v := .slice A l.length c) rfl rfl, HS.out.c 3 0 (v := .int .i64 (d : Int)) rfl rfl, HS.out.c 3 1 (v := .int .i64 (n : Int)) rfl rfl, HS.out.c 3 2 (v := .slice A2 l2.length cc) rfl rfl⟩ (a' := ?_) ?_ (fun hHeld => ?_)
    rotate_left
    · first | (simp only [Act.put, List.setIfInBounds_toArray, List.set_cons_zero, List.set_cons_succ, i64_w, i32_w]; rfl) | simp only [Act.put, List.setIfInBounds_toArray, List.set_cons_zero, List.set_cons_succ, i64_w, i32_w]
    clear hK K
    refine run_d rfl (fun K hK => ?_)
    refine goes_ Try.func126 (by kernel_rfl) rfl #[.agg #[.int .i64 (d : Int), .int .i64 (n : Int), .slice A2 l2.length cc]] (by rfl) rfl rfl (by simp only [List.map_toArray, List.map_cons, List.map_nil]; rfl) ?_
    refine (implOpen d n A2 cc l2 _ HL.out (HS.out.oldC HR2.out) HY.out).mono ?_
    rintro e_ w1 ⟨g2, v2, rfl, hs⟩
    refine ⟨_, rfl, ?_⟩
    have n_ := Aside0.mk (HS.out.new hs)
    clear HS hs
    have HS := n_
    clear n_
    simp only [List.cons_append, List.nil_append] at HS
    refine goD hK (a' := ?_) ?_ ?_
    rotate_left
    · first | (simp only [Act.put, List.setIfInBounds_toArray, List.set_cons_zero, List.set_cons_succ, i64_w, i32_w]; rfl) | simp only [Act.put, List.setIfInBounds_toArray, List.set_cons_zero, List.set_cons_succ, i64_w, i32_w]
    clear hK K
    refine run_d rfl (fun K hK => ?_)
    refine goes_ Try.func146 (by kernel_rfl) rfl #[(.pointer (some ⟨g, 0, none⟩)), (.pointer (some ⟨g2, 0, none⟩))] (by rfl) rfl rfl (by simp only [List.map_toArray, List.map_cons, List.map_nil]; rfl) ?_
    refine (HCS.out g v g2 v2 _ (HS.out.at (i := 2) rfl) (HS.out.at (i := 3) rfl) (HS.out.at (i := 0) rfl) (HS.out.at (i := 1) rfl)).mono ?_
    rintro e_ w1 ⟨g3, v3, rfl, hs⟩
    refine ⟨_, rfl, ?_⟩
    have n_ := Aside0.mk (HS.out.new hs)
    clear HS hs
    have HS := n_
    clear n_
    simp only [List.cons_append, List.nil_append] at HS
    refine goD hK (a' := ?_) ?_ ?_
    rotate_left
    · first | (simp only [Act.put, List.setIfInBounds_toArray, List.set_cons_zero, List.set_cons_succ, i64_w, i32_w]; rfl) | simp only [Act.put, List.setIfInBounds_toArray, List.set_cons_zero, List.set_cons_succ, i64_w, i32_w]
    clear hK K
    refine run_d rfl (fun K hK => ?_)
    refine goes_ Try.func116 (by kernel_rfl) rfl #[(.pointer (some ⟨g3, 0, none⟩))] (by rfl) rfl rfl (by simp only [List.map_toArray, List.map_cons, List.map_nil]; rfl) ?_
    refine (HTo.out g3 v3 _ (HS.out.at (i := 0) rfl) (HS.out.at (i := 1) rfl)).mono ?_
    rintro e_ w1 ⟨B, b, rfl, hs⟩
    refine ⟨_, rfl, ?_⟩
    have n_ := Aside0.mk (HS.out.new hs)
    clear HS hs
    have HS := n_
    clear n_
    simp only [List.cons_append, List.nil_append] at HS
    refine goD hK (a' := ?_) ?_ ?_
    rotate_left
    · first | (simp only [Act.put, List.setIfInBounds_toArray, List.set_cons_zero, List.set_cons_succ, i64_w, i32_w]; rfl) | simp only [Act.put, List.setIfInBounds_toArray, List.set_cons_zero, List.set_cons_succ, i64_w, i32_w]
    clear hK K
    repeat (first | ((with_reducible refine gate_p ?_); refine run_p (v := ?_) rfl rfl (Or.inl ⟨by rfl, ?_⟩) (a' := ?_) ?_ ?_; rotate_left; (· (intro w'; first | (go_simp; with_reducible rfl) | (go_simp; done))); rotate_left; (· first | (simp only [Act.put, List.setIfInBounds_toArray, List.set_cons_zero, List.set_cons_succ, i64_w, i32_w]; rfl) | simp only [Act.put, List.setIfInBounds_toArray, List.set_cons_zero, List.set_cons_succ, i64_w, i32_w])) | ((with_reducible refine gate_t ?_); refine run_t (v := ?_) rfl rfl hHeld (Or.inl ⟨by rfl, ?_⟩) (a' := ?_) ?_ ?_; rotate_left; (· (intro w' hS_; first | (go_simp; with_reducible rfl) | (go_simp; done))); rotate_left; (· first | (simp only [Act.put, List.setIfInBounds_toArray, List.set_cons_zero, List.set_cons_succ, i64_w, i32_w]; rfl) | simp only [Act.put, List.setIfInBounds_toArray, List.set_cons_zero, List.set_cons_succ, i64_w, i32_w])))
    refine run_d rfl (fun K hK => ?_)
    refine stp_set (by rfl) rfl rfl HS 7 0 (cs' := #[.int .i64 (resO d n o).1, .int .i64 (resO d n o).2.1, .slice B (resO d n o).2.2.1.length b]) rfl rfl rfl (by kernel_rfl) rfl rfl ?_
    clear HS
    intro w1 HS
    simp only [List.set_cons_zero, List.set_cons_succ] at HS
    refine goD hK rfl ?_
    clear hK K
    repeat (first | ((with_reducible refine gate_p ?_); refine run_p (v := ?_) rfl rfl (Or.inl ⟨by rfl, ?_⟩) (a' := ?_) ?_ ?_; rotate_left; (· (intro w'; first | (go_simp; with_reducible rfl) | (go_simp; done))); rotate_left; (· first | (simp only [Act.put, List.setIfInBounds_toArray, List.set_cons_zero, List.set_cons_succ, i64_w, i32_w]; rfl) | simp only [Act.put, List.setIfInBounds_toArray, List.set_cons_zero, List.set_cons_succ, i64_w, i32_w])) | ((with_reducible refine gate_t ?_); refine run_t (v := ?_) rfl rfl hHeld (Or.inl ⟨by rfl, ?_⟩) (a' := ?_) ?_ ?_; rotate_left; (· (intro w' hS_; first | (go_simp; with_reducible rfl) | (go_simp; done))); rotate_left; (· first | (simp only [Act.put, List.setIfInBounds_toArray, List.set_cons_zero, List.set_cons_succ, i64_w, i32_w]; rfl) | simp only [Act.put, List.setIfInBounds_toArray, List.set_cons_zero, List.set_cons_succ, i64_w, i32_w])))
    refine run_done ?_
    clear hHeld
    go_wp2
    refine bodyPost_ret (results_cell_tmp_row rfl _ _ g_r 32 #[.int .i64 (resO d n o).1, .int .i64 (resO d n o).2.1, .slice B (resO d n o).2.2.1.length b] (0, 0) _ rfl (HS.out.at (i := 7) rfl) Try.underlying32 rfl (by kernel_rfl)) rfl ?_
    exact ⟨B, b, rfl, HS.out.sel [0] (by decide)⟩
  · have hkb : (k != 0) = true := by simpa using h0
    rw [if_neg h0]
    clear hk h0
    go_enter Try.func68, Try.ntmps68
    go_wp2_with (first | ((with_reducible refine gate_dst (N := 2) rfl ?_); refine wpList_stp (fun K hK => ?_); refine stp_box (by rfl) HS (cs := #[.int .i64 d, .int .i64 n, .slice A l.length c]) (t := 32) (by first | (go_simp; done) | (go_simp; rfl)) ?_; clear HS; intro g_p w1 hg_p HS; refine hK _ _ ?_; clear hK K) | ((with_reducible refine gate_dst (N := 3) rfl ?_); refine wpList_stp (fun K hK => ?_); refine stp_box (by rfl) HS (cs := #[.int .i64 d2, .int .i64 n2, .slice A2 l2.length cc]) (t := 32) (by first | (go_simp; done) | (go_simp; rfl)) ?_; clear HS; intro g_a w1 hg_a HS; refine hK _ _ ?_; clear hK K) | ((with_reducible refine gate_dst (N := 4) rfl ?_); refine wpList_stp (fun K hK => ?_); refine stp_box (by rfl) HS (cs := #[(.int .i64 0), (.int .i64 0), (.slice none 0 0)]) (t := 32) (by first | (go_simp; done) | (go_simp; rfl)) ?_; clear HS; intro g_r w1 hg_r HS; refine hK _ _ ?_; clear hK K; have f1_ := HS.out.c 2 0 (v := .int .i64 d) rfl rfl; have f2_ := HS.out.c 2 1 (v := .int .i64 n) rfl rfl; have f3_ := HS.out.c 2 2 (v := .slice A l.length c) rfl rfl; have f4_ := HS.out.c 1 0 (v := .int .i64 d2) rfl rfl; have f5_ := HS.out.c 1 1 (v := .int .i64 n2) rfl rfl; have f6_ := HS.out.c 1 2 (v := .slice A2 l2.length cc) rfl rfl) | (go_at_call 134; refine (HC.out _ (HS.out.oldC HR.out) (HS.out.oldC HR2.out)).mono ?_; rintro e_ w1 ⟨rfl, hb⟩; have n_ := Aside0.mk (HS.out.call hb); clear HS f1_ f2_ f3_ f4_ f5_ f6_ hb; have HS := n_; clear n_) | ((with_reducible refine gate_store (t := 32) (p := 4) rfl ?_); refine wpList_stp (fun K hK => ?_); refine stp_set (by rfl) rfl rfl HS 0 0 (cs' := #[(.int .i64 0), (.int .i64 0), (.slice none 0 0)]) rfl rfl rfl (by kernel_rfl) rfl rfl ?_; clear HS; intro w1 HS; simp only [List.set_cons_zero, List.set_cons_succ] at HS; refine hK _ _ ?_; clear hK K))
    refine bodyPost_ret (results_cell_tmp_row rfl _ _ g_r 32 #[(.int .i64 0), (.int .i64 0), (.slice none 0 0)] (0, 0) _ rfl (HS.out.at (i := 0) rfl) Try.underlying32 rfl (by kernel_rfl)) rfl ?_
    exact ⟨none, 0, rfl, nilS (HS.out.sel [] (by decide))⟩
end Go.Proofs.Ytcklblagklojhaa.H

