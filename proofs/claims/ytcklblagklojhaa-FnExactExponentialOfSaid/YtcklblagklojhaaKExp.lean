/- Exponentials of series: what the program and the reference return. Conditions: the bounds that stand in each statement. -/
import Derived.Test.YtcklblagklojhaaKPws
import Derived.Test.YtcklblagklojhaaKTabR
namespace Go.Proofs.Ytcklblagklojhaa.M
theorem fact_mul {i : Nat} (h : 1 ≤ i) : fact (i - 1) * i = fact i := by
  obtain ⟨j, rfl⟩ : ∃ j, i = j + 1 := ⟨i - 1, by omega⟩
  rfl
theorem fact_le {i : Nat} (h : i ≤ 5) : fact i ≤ 120 := five (p := fun i => fact i ≤ 120) (by decide) (by decide) (by decide) (by decide) (by decide) (by decide) i h
theorem fact_w {i : Nat} (h1 : 1 ≤ i) (h : i ≤ 5) : Go.RowKit.wrap64 ((fact (i - 1) : Int) * (i : Int)) = (fact i : Int) := by
  have h2 := fact_le h
  have h3 : ((fact (i - 1) : Int) * (i : Int)) = (fact i : Int) := by rw [← fact_mul h1, Int.natCast_mul]
  rw [h3]
  exact wrap_id (by omega) (by omega)
theorem expC_at {k : Nat} (h : k ≤ 5) : expC k = (1, (fact k : Int)) := by unfold expC; rw [Nat.min_eq_left h]
def expR (d n : Int) (l : Ts) : Rs := if isS d n l = true then if (co l eps).1 = 0 then resO d n (expS d.toNat n.toNat l) else noS 5 else noS 1
theorem exp_ts {d n : Nat} (hd : d ≤ 9) {l p : Ts} (h : expS d n l = some p) : isTs d n p = true := out_ts hd expC_fr h
theorem exp_len {d n : Int} {l : Ts} : (expR d n l).2.2.1.length ≤ 1048576 := by
  unfold expR
  split
  · rename_i h
    obtain ⟨⟨e1, e2⟩, ⟨e3, e4⟩, _⟩ := lev_iff.1 (isS_l h)
    split
    · exact resO_len' (by omega) (by omega) fun p hp => exp_ts (by omega) hp
    · show (0 : Nat) ≤ _; decide
  · show (0 : Nat) ≤ _; decide
end Go.Proofs.Ytcklblagklojhaa.M
namespace Go.Proofs.Ytcklblagklojhaa.H
open Go.RowKit Go.Proofs.YtcklblagklojhaaW.PrintWords Go.Proofs.YtcklblagklojhaaW.PrintLast Go.Proofs.YtcklblagklojhaaW.PrintMore Go.Proofs.Ytcklblagklojhaa.M
attribute [local go_sem] max2_int min2_int max_two min_two max_three min_three max_four min_four resQ
set_option linter.unusedVariables false
set_option linter.unusedSimpArgs false
set_option maxRecDepth 100000
set_option maxHeartbeats 8000000 in
theorem implFactorial (k : Nat) (hk : k ≤ 5) (w : World) : Calls Try.prog 203 #[.int .i64 (k : Int)] w fun e w' => e = .returned (.int .i64 ((fact k : Nat) : Int)) ∧ Below w.heap.size w w' := by
  have HS := Aside0.mk (Sep.refl w)
  go_enter Try.func203, Try.ntmps203
  go_wp2
  go_loopw [3, 4] (fun x v w' => ∃ i : Nat, 2 ≤ i ∧ (i ≤ k + 1 ∨ i = 2) ∧ v = .int .i64 (i : Int) ∧ x = .int .i64 ((fact (i - 1) : Nat) : Int) ∧ Aside0 (Mod w w' No [])) (fun _ v _ => k + 2 - (intOf v).toNat)
  case atStart => exact ⟨2, by omega, by omega, rfl, rfl, HS⟩
  case round =>
    clear HS
    obtain ⟨i, hi, hik, rfl, rfl, HS⟩ := hrel
    by_cases hlt : i ≤ k
    · have hw1 := fact_w (i := i) (by omega) (by omega)
      have hw2 := (i64_w _).trans hw1
      go_wp2
      go_roundw
      case rel => exact ⟨i + 1, by omega, by omega, by go_num, by rw [Nat.add_sub_cancel], HS⟩
      case measure => simp [intOf]; omega
    · have hle : ¬ ((i : Int) ≤ (k : Int)) := by omega
      go_wp2
      go_ret
      have e_ : fact (i - 1) = fact k := by
        rcases hik with h | h
        · rw [show i - 1 = k by omega]
        · have : k = 0 ∨ k = 1 := by omega
          subst h
          rcases this with rfl | rfl <;> rfl
      exact ⟨by rw [e_]; rfl, HS.out.below⟩
theorem implExp1 (k : Nat) (hk : k ≤ 5) (w : World) : Calls Try.prog 202 #[.int .i64 (k : Int)] w fun e w' => e = .returned (.agg #[.int .i64 (expC k).1, .int .i64 (expC k).2]) ∧ Below w.heap.size w w' := by
  have HE := Aside0.mk (expC_at hk)
  have HS := Aside0.mk (Sep.refl w)
  go_enter Try.func202, Try.ntmps202
  go_wp2_with (first | ((with_reducible refine gate_dst (N := 2) rfl ?_); refine bxL 24 #[(.int .i64 0), (.int .i64 0)] HS ?_; clear HS; intro g_r w1 hg_r HS) | (go_at_call 203; refine (implFactorial k hk _).mono ?_; rintro e_ w1 ⟨rfl, hb⟩; replace HS := sB HS hb; clear hb) | ((with_reducible refine gate_store (t := 24) (p := 2) rfl ?_); refine stL HS 0 0 #[(.int .i64 1), (.int .i64 ((fact k : Nat) : Int))] rfl rfl rfl rfl rfl ?_; clear HS; intro w1 HS))
  refine bodyPost_ret (results_cell_row rfl _ _ g_r 24 #[(.int .i64 1), (.int .i64 ((fact k : Nat) : Int))] (0, 0) _ rfl (HS.out.at (i := 0) rfl) Try.underlying24 rfl (by kernel_rfl)) rfl ?_
  exact ⟨by rw [HE.out], HS.out.below⟩
set_option maxHeartbeats 8000000 in
theorem tabPowers_exp {w : World} {d n g v : Nat} {F : Tb} {o : Option Ts} (hl : lev d n = true) (h : TabI w g v d n F o) :
    Calls Try.prog 167 #[.pointer (some ⟨g, 0, none⟩), .int .i64 0, .func (.func 202) #[] #[]] w (RetT w d n (outO d n o expC (n + 1))) := by
  obtain ⟨hd1, hd3, hn1, hn5⟩ := lev_bd hl
  have HL := Aside0.mk hl
  have H1 := Aside0.mk h
  have HT := Aside0.mk h.2.2.1
  have HS := Aside0.mk (Sep.refl w)
  have HPP := Aside0.mk (fun k (h : 0 < k) => (by obtain ⟨j, rfl⟩ : ∃ j, k = j + 1 := ⟨k - 1, by omega⟩; rfl : two (mulS d n) (powO d n o (k - 1)) o = powO d n o k))
  have HOS := Aside0.mk (fun k => outO_step (d := d) (n := n) (o := o) (c := expC) (k := k) (expC_ne k))
  clear hl h
  go_enter Try.func167, Try.ntmps167
  go_wp2_with (first | (go_at_call 184; refine (tabLike HL.out (H1.out.old HS.out)).mono ?_; rintro e_ w1 ⟨go, vo, Fo, rfl, hF, hQ, hs⟩; replace HS := sN2 HS hs; clear hs; have HFo := Aside0.mk hF; have HQo := Aside0.mk hQ; clear hF hQ) | (go_at_call 115; refine (tabUnit HL.out (H1.out.old HS.out)).mono ?_; rintro e_ w1 ⟨gp, vp, Fp, rfl, hF, hQ, hs⟩; replace HS := sN2 HS hs; clear hs; have HFp := Aside0.mk hF; have HQp := Aside0.mk hQ; clear hF hQ; have f1_ := bx_c (HS.out.oldI HT.out) 1 (v := .int .i64 (n : Int)) rfl))
  go_loopw [7, 8, 19] (fun x y q w' => ∃ (k go vo : Nat) (Fo : Tb) (gp vp : Nat) (Fp : Tb), k ≤ n + 1 ∧ q = .int .i64 (k : Int) ∧ x = .pointer (some ⟨go, 0, none⟩) ∧ y = .pointer (some ⟨gp, 0, none⟩) ∧ Aside0 (good Fo.1) ∧ Aside0 (Rel d n (outO d n o expC k) Fo) ∧ Aside0 (good Fp.1) ∧ Aside0 (Rel d n (powO d n o (k - 1)) Fp) ∧ Aside0 (Mod w w' No [tS gp vp d n (nW d n) Fp.2, tV vp d n Fp.1, tS go vo d n (nW d n) Fo.2, tV vo d n Fo.1])) (fun _ _ q _ => n + 1 - (intOf q).toNat)
  case atStart => exact ⟨0, go, vo, Fo, gp, vp, Fp, by omega, rfl, rfl, rfl, HFo, HQo, HFp, HQp, HS⟩
  case round =>
    clear HS HFo HQo HFp HQp
    obtain ⟨k, go, vo, Fo, gp, vp, Fp, hk, rfl, rfl, rfl, HFo, HQo, HFp, HQp, HS⟩ := hrel
    by_cases hlt : k < n + 1
    · by_cases h0 : 0 < k
      · have hpk := HPP.out k h0
        have HON := Aside0.mk (HOS.out k)
        go_wp2_with (first | (go_at_call 148; refine (tabTimes HL.out ⟨HFp.out, HQp.out, HS.out.at (i := 0) rfl, HS.out.at (i := 1) rfl⟩ (H1.out.old HS.out)).mono ?_; rintro e_ w1 ⟨gb, vb, Fb, rfl, hF, hQ, hs⟩; replace HS := sN2 HS hs; clear hs; have HFb := Aside0.mk hF; have HQb := Aside0.mk (hpk ▸ hQ); clear hF hQ) | (go_at_call 202; refine (implExp1 k (by omega) _).mono ?_; rintro e_ w1 ⟨rfl, hb⟩; replace HS := sB HS hb; clear hb) | (go_at_call 140; refine (tabScaled HL.out ⟨HFb.out, HQb.out, HS.out.at (i := 0) rfl, HS.out.at (i := 1) rfl⟩ (expC_fr k)).mono ?_; rintro e_ w1 ⟨gc, vc, Fc, rfl, hF, hQ, hs⟩; replace HS := sN2 HS hs; clear hs; have HFc := Aside0.mk hF; have HQc := Aside0.mk hQ; clear hF hQ) | (go_at_call 146; refine (tabSum HL.out ⟨HFo.out, HQo.out, HS.out.at (i := 6) rfl, HS.out.at (i := 7) rfl⟩ ⟨HFc.out, HQc.out, HS.out.at (i := 0) rfl, HS.out.at (i := 1) rfl⟩).mono ?_; rintro e_ w1 ⟨gd, vd, Fd, rfl, hF, hQ, hs⟩; replace HS := sN2 HS hs; clear hs; have HFd := Aside0.mk hF; have HQd := Aside0.mk hQ; clear hF hQ))
        go_roundw
        case rel => exact ⟨k + 1, gd, vd, Fd, gb, vb, Fb, by omega, by go_num, rfl, rfl, HFd, ⟨HON.out ▸ HQd.out⟩, HFb, HQb, sX HS [4, 5, 0, 1]⟩
        case measure => simp [intOf]; omega
      · have HP0 := Aside0.mk (show powO d n o (k - 1) = powO d n o k by rw [show k - 1 = k by omega])
        have HK0 := Aside0.mk (show k = 0 by omega)
        rw [HP0.out] at HQp
        have HON := Aside0.mk (HOS.out k)
        go_wp2_with (first | (go_at_call 202; refine (implExp1 k (by omega) _).mono ?_; rintro e_ w1 ⟨rfl, hb⟩; replace HS := sB HS hb; clear hb) | (go_at_call 140; refine (tabScaled HL.out ⟨HFp.out, HQp.out, HS.out.at (i := 0) rfl, HS.out.at (i := 1) rfl⟩ (expC_fr k)).mono ?_; rintro e_ w1 ⟨gc, vc, Fc, rfl, hF, hQ, hs⟩; replace HS := sN2 HS hs; clear hs; have HFc := Aside0.mk hF; have HQc := Aside0.mk hQ; clear hF hQ) | (go_at_call 146; refine (tabSum HL.out ⟨HFo.out, HQo.out, HS.out.at (i := 4) rfl, HS.out.at (i := 5) rfl⟩ ⟨HFc.out, HQc.out, HS.out.at (i := 0) rfl, HS.out.at (i := 1) rfl⟩).mono ?_; rintro e_ w1 ⟨gd, vd, Fd, rfl, hF, hQ, hs⟩; replace HS := sN2 HS hs; clear hs; have HFd := Aside0.mk hF; have HQd := Aside0.mk hQ; clear hF hQ))
        go_roundw
        case rel => exact ⟨k + 1, gd, vd, Fd, gp, vp, Fp, by omega, by go_num, rfl, rfl, HFd, ⟨HON.out ▸ HQd.out⟩, HFp, HQp, sX HS [4, 5, 0, 1]⟩
        case measure => simp [intOf]; omega
    · obtain rfl : k = n + 1 := by omega
      go_wp2
      go_ret
      exact ⟨go, vo, Fo, rfl, HFo.out, HQo.out, HS.out.sel [2, 3] (by decide)⟩
theorem tabExp {w : World} {d n g v : Nat} {F : Tb} {l : Ts} (hl : lev d n = true) (h : TabI w g v d n F (some l)) : Calls Try.prog 161 #[.pointer (some ⟨g, 0, none⟩)] w (RetT w d n (expS d n l)) := by
  have HL := Aside0.mk hl
  have H1 := Aside0.mk h
  have HS := Aside0.mk (Sep.refl w)
  clear hl h
  go_enter Try.func161, Try.ntmps161
  go_wp2_with (first | (go_at_call 167; refine (tabPowers_exp HL.out (H1.out.old HS.out)).mono ?_; rintro e_ w1 ⟨gd, vd, Fd, rfl, hF, hQ, hs⟩; replace HS := sN2 HS hs; clear hs; have HFd := Aside0.mk hF; have HQd := Aside0.mk hQ; clear hF hQ))
  go_ret
  exact ⟨gd, vd, Fd, rfl, HFd.out, HQd.out, HS.out⟩
set_option maxHeartbeats 8000000 in
theorem specExpQ (d n : Nat) (hd : d ≤ 3) (hn : n ≤ 5) (A : Option Addr) (c : Nat) (l : Ts) (w : World) (hr : KT.C w A l.length l) (hc : l.length ≤ c) (hx : isTs d n l = true) :
    Calls Try.prog 160 #[.agg #[.int .i64 (d : Int), .int .i64 (n : Int), .slice A l.length c]] w (RetQ w (resQ d n (expS d n l))) := by
  have HR := Aside0.mk hr
  have HX := Aside0.mk hx
  obtain ⟨R, hR⟩ : ∃ R, R = resQ d n (expS d n l) := ⟨_, rfl⟩
  have HP := Aside0.mk (fun C cs (y : List Fr) W k1 k2 (k3 : y = numL expC y.length) (k4 : y.length = n + 1) => (hR ▸ specSumP d n (n + 1) hd hn A c l C cs y expC W k1 hc hx k2 k3 k4 (by omega) expC_fr : Calls Try.prog 201 _ W (RetQ W R)))
  rw [← hR]
  have HS := Aside0.mk (Sep.refl w)
  clear hr hx hR
  go_enter Try.func160, Try.ntmps160
  go_wp2_with (first | ((with_reducible refine gate_dst (N := 1) rfl ?_); refine bxL 32 #[.int .i64 (d : Int), .int .i64 (n : Int), .slice A l.length c] HS ?_; clear HS; intro g_p w1 hg_p HS) | ((with_reducible refine gate_dst (N := 2) rfl ?_); refine bxL 32 #[(.int .i64 0), (.int .i64 0), (.slice none 0 0)] HS ?_; clear HS; intro g_r w1 hg_r HS) | ((with_reducible refine gate_dst (N := 9) rfl ?_); refine wpList_stp (fun K hK => ?_); refine stp_lit (KF) rfl 24 (by rfl) HS (xs := ([] : List Fr)) (inner := []) (by first | (go_simp; done) | (go_simp; rfl)) (fun W base ok => Reps.none _ _) (by simp) ?_; clear HS; intro A_s c_s w1 HS; refine hK _ _ ?_; clear hK K))
  go_loopw [4, 5, 6] (fun x f v w' => ∃ (k p : Nat) (C : Option Addr) (cs : Nat) (y : List Fr), k ≤ n + 1 ∧ v = .int .i64 (k : Int) ∧ f = .int .i64 (p : Int) ∧ Aside0 (p = fact (k - 1)) ∧ x = .slice C y.length cs ∧ Aside0 (y = numL expC k) ∧ Aside0 (Mod w w' No [rowF C cs y, bx g_r 32 #[(.int .i64 0), (.int .i64 0), (.slice none 0 0)], bx g_p 32 #[.int .i64 (d : Int), .int .i64 (n : Int), .slice A l.length c]])) (fun _ _ v _ => n + 1 - (intOf v).toNat)
  case atStart => exact ⟨0, 1, A_s, c_s, [], by omega, rfl, rfl, ⟨rfl⟩, rfl, ⟨rfl⟩, HS⟩
  case round =>
    clear HS
    obtain ⟨k, p, C, cs, y, hk, rfl, rfl, HPF, rfl, HY, HS⟩ := hrel
    by_cases hlt : k ≤ n
    · have hyl : y.length ≤ 6 := by rw [HY.out, numL_len]; omega
      have HE := Aside0.mk (expC_at (k := k) (by omega))
      have hw0 : wrap64 ((p : Int) * (if (k : Int) < 1 then 1 else (k : Int))) = ((fact k : Nat) : Int) := by
        rw [HPF.out]
        by_cases h1 : k = 0
        · subst h1; exact wrap_id (x := 1) (by decide) (by decide)
        · rw [if_neg (by omega)]; exact fact_w (by omega) (by omega)
      have HW0 := Aside0.mk hw0
      clear hw0
      have f1_ := HS.out.c 2 1 (v := .int .i64 (n : Int)) rfl rfl
      go_wp2_with (first | ((with_reducible refine gate_builtin (b := .append) (xs := #[.tmp 20, .tmp 23]) rfl ?_); at_builtin; refine wpList_stp (fun K hK => ?_); refine stp_app (KF) rfl (by rfl) HS 0 rfl (.tmp 20) (.tmp 23) 104 24 (.agg #[(.int .i64 0), (.int .i64 0)]) 16 rfl Try.underlying104 infoFrac (by kernel_rfl) (((1, (wrap64 ((p : Int) * (if (k : Int) < 1 then 1 else (k : Int))))) : Fr)) [.int .i64 1, .int .i64 (wrap64 ((p : Int) * (if (k : Int) < 1 then 1 else (k : Int))))] rfl (by first | rfl | (show Value.slice (some ⟨_, 0, none⟩) 1 1 = _; simp)) (KF_M (1, (wrap64 ((p : Int) * (if (k : Int) < 1 then 1 else (k : Int)))))) (by omega) ?_; clear HS f1_; intro A_y' c_y' y' w1 Ny' HS; simp only [List.set_cons_zero, List.set_cons_succ] at HS; refine hK _ _ ?_; clear hK K))
      go_roundw
      case rel => exact ⟨k + 1, fact k, A_y', c_y', y', by omega, by go_num, by rw [HW0.out], ⟨by rw [Nat.add_sub_cancel]⟩, rfl, ⟨by rw [Ny'.out, HY.out, numL_succ, HE.out, HW0.out]⟩, HS⟩
      case measure => simp [intOf]; omega
    · obtain rfl : k = n + 1 := by omega
      have hy2 : y = numL expC y.length := by
        have h := HY.out
        rw [show y.length = n + 1 by rw [h, numL_len]]
        exact h
      have HY2 := Aside0.mk hy2
      clear hy2
      have HYL := Aside0.mk (show y.length = n + 1 by rw [HY.out, numL_len])
      have f1_ := HS.out.c 2 1 (v := .int .i64 (n : Int)) rfl rfl
      have f2_ := HS.out.c 2 0 (v := .int .i64 (d : Int)) rfl rfl
      have f3_ := HS.out.c 2 2 (v := .slice A l.length c) rfl rfl
      go_wp2_with (first | (go_at_call 201; refine (HP.out C cs y _ (HS.out.oldC HR.out) (HS.out.reads 0 rfl) HY2.out HYL.out).mono ?_; rintro e_ w1 ⟨B, b, rfl, hs⟩; replace HS := sN1 HS hs; clear hs f1_ f2_ f3_) | ((with_reducible refine gate_dst (N := 7) rfl ?_); refine bxL 32 #[(.int .i64 0), (.int .i64 0), (.slice none 0 0)] HS ?_; clear HS; intro g_z w1 hg_z HS) | ((with_reducible refine gate_store (t := 32) (p := 7) rfl ?_); refine stL HS 0 0 #[.int .i64 R.1, .int .i64 R.2.1, .slice B R.2.2.1.length b] rfl rfl rfl rfl rfl ?_; clear HS; intro w1 HS; have f1_ := HS.out.c 0 0 (v := .int .i64 R.1) rfl rfl; have f2_ := HS.out.c 0 1 (v := .int .i64 R.2.1) rfl rfl; have f3_ := HS.out.c 0 2 (v := .slice B R.2.2.1.length b) rfl rfl) | ((with_reducible refine gate_store (t := 32) (p := 2) rfl ?_); refine stL HS 3 0 #[.int .i64 R.1, .int .i64 R.2.1, .slice B R.2.2.1.length b] rfl rfl rfl rfl rfl ?_; clear HS f1_ f2_ f3_; intro w1 HS))
      refine bodyPost_ret (results_cell_tmp_row rfl _ _ g_r 32 #[.int .i64 R.1, .int .i64 R.2.1, .slice B R.2.2.1.length b] (0, 0) _ rfl (HS.out.at (i := 3) rfl) Try.underlying32 rfl (by kernel_rfl)) rfl ?_
      exact ⟨B, b, rfl, HS.out.sel [1] (by decide)⟩
set_option maxHeartbeats 8000000 in
theorem specExponentialOf (d n : Int) (A : Option Addr) (c : Nat) (l : Ts) (w : World) (hr : KT.C w A l.length l) (hc : l.length ≤ c) (hb : bnd l = true) :
    Calls Try.prog 83 #[.agg #[.int .i64 d, .int .i64 n, .slice A l.length c]] w (RetS w (expR d n l)) := by
  have HR := Aside0.mk hr
  have HB := Aside0.mk hb
  have HS := Aside0.mk (Sep.refl w)
  clear hr hb
  unfold expR
  cases h : isS d n l with
  | false =>
    go_enter Try.func83, Try.ntmps83
    go_wp2_with (first | ((with_reducible refine gate_dst (N := 1) rfl ?_); refine bxL 32 #[.int .i64 d, .int .i64 n, .slice A l.length c] HS ?_; clear HS; intro g_p w1 hg_p HS) | ((with_reducible refine gate_dst (N := 2) rfl ?_); refine bxL 32 #[(.int .i64 0), (.int .i64 0), (.slice none 0 0)] HS ?_; clear HS; intro g_r w1 hg_r HS; have f1_ := HS.out.c 1 0 (v := .int .i64 d) rfl rfl; have f2_ := HS.out.c 1 1 (v := .int .i64 n) rfl rfl; have f3_ := HS.out.c 1 2 (v := .slice A l.length c) rfl rfl) | (go_at_call 109; refine (specIs d n A c l _ (HS.out.oldC HR.out) hc HB.out).mono ?_; rintro e_ w1 ⟨rfl, hb⟩; replace HS := sB HS hb; clear hb f1_ f2_ f3_) | ((with_reducible refine gate_store (t := 32) (p := 2) rfl ?_); refine stL HS 0 0 #[(.int .i64 0), (.int .i64 0), (.slice none 0 0)] rfl rfl rfl rfl rfl ?_; clear HS; intro w1 HS))
    refine bodyPost_ret (results_cell_tmp_row rfl _ _ g_r 32 #[(.int .i64 0), (.int .i64 0), (.slice none 0 0)] (0, 0) _ rfl (HS.out.at (i := 0) rfl) Try.underlying32 rfl (by kernel_rfl)) rfl ?_
    exact ⟨none, 0, rfl, nilS (HS.out.sel [] (by decide))⟩
  | true =>
    have HX := Aside0.mk (isS_t h)
    obtain ⟨d, n, rfl, rfl, hd1, hd3, hn1, hn5⟩ := lev_nat (isS_l h)
    rw [Int.toNat_natCast, Int.toNat_natCast] at HX ⊢
    rw [if_pos rfl]
    by_cases hz : (co l eps).1 = 0
    · have hzb : ((co l eps).1 == 0) = true := by rw [hz]; rfl
      rw [if_pos hz]
      have HP := Aside0.mk (fun W k1 => specExpQ d n hd3 hn5 A c l W k1 hc HX.out)
      obtain ⟨o, ho⟩ : ∃ o, o = expS d n l := ⟨_, rfl⟩
      rw [← ho] at HP
      rw [← ho]
      clear ho hz
      cases o with
      | none =>
        go_enter Try.func83, Try.ntmps83
        go_wp2_with (first | ((with_reducible refine gate_dst (N := 1) rfl ?_); refine bxL 32 #[.int .i64 (d : Int), .int .i64 (n : Int), .slice A l.length c] HS ?_; clear HS; intro g_p w1 hg_p HS) | ((with_reducible refine gate_dst (N := 2) rfl ?_); refine bxL 32 #[(.int .i64 0), (.int .i64 0), (.slice none 0 0)] HS ?_; clear HS; intro g_r w1 hg_r HS; have f1_ := HS.out.c 1 0 (v := .int .i64 (d : Int)) rfl rfl; have f2_ := HS.out.c 1 1 (v := .int .i64 (n : Int)) rfl rfl; have f3_ := HS.out.c 1 2 (v := .slice A l.length c) rfl rfl) | (go_at_call 109; refine (specIs d n A c l _ (HS.out.oldC HR.out) hc HB.out).mono ?_; rintro e_ w1 ⟨rfl, hb⟩; replace HS := sB HS hb; clear hb f1_ f2_ f3_; have f1_ := HS.out.c 1 0 (v := .int .i64 (d : Int)) rfl rfl; have f2_ := HS.out.c 1 1 (v := .int .i64 (n : Int)) rfl rfl; have f3_ := HS.out.c 1 2 (v := .slice A l.length c) rfl rfl) | (go_at_call 122; refine (specConstant d n A c l _ (HS.out.oldC HR.out) hc HB.out).mono ?_; rintro e_ w1 ⟨rfl, hb⟩; replace HS := sB HS hb; clear hb f1_ f2_ f3_) | (go_at_call 92; refine (specZero _ _ _).mono ?_; rintro e_ w1 ⟨rfl, hb⟩; replace HS := sB HS hb; clear hb; have f1_ := HS.out.c 1 0 (v := .int .i64 (d : Int)) rfl rfl; have f2_ := HS.out.c 1 1 (v := .int .i64 (n : Int)) rfl rfl; have f3_ := HS.out.c 1 2 (v := .slice A l.length c) rfl rfl) | (go_at_call 160; refine (HP.out _ (HS.out.oldC HR.out)).mono ?_; rintro e_ w1 ⟨B, b, rfl, hs⟩; replace HS := sN1 HS hs; clear hs f1_ f2_ f3_) | ((with_reducible refine gate_dst (N := 4) rfl ?_); refine bxL 32 #[(.int .i64 0), (.int .i64 0), (.slice none 0 0)] HS ?_; clear HS; intro g_y w1 hg_y HS) | ((with_reducible refine gate_store (t := 32) (p := 4) rfl ?_); refine stL HS 0 0 #[.int .i64 0, .int .i64 0, .slice B ([] : Ts).length b] rfl rfl rfl rfl rfl ?_; clear HS; intro w1 HS) | ((with_reducible refine gate_store (t := 32) (p := 2) rfl ?_); refine stL HS 2 0 #[(.int .i64 0), (.int .i64 0), (.slice none 0 0)] rfl rfl rfl rfl rfl ?_; clear HS; intro w1 HS))
        refine bodyPost_ret (results_cell_tmp_row rfl _ _ g_r 32 #[(.int .i64 0), (.int .i64 0), (.slice none 0 0)] (0, 0) _ rfl (HS.out.at (i := 2) rfl) Try.underlying32 rfl (by kernel_rfl)) rfl ?_
        exact ⟨none, 0, rfl, nilS (HS.out.sel [] (by decide))⟩
      | some z =>
        go_enter Try.func83, Try.ntmps83
        go_wp2_with (first | ((with_reducible refine gate_dst (N := 1) rfl ?_); refine bxL 32 #[.int .i64 (d : Int), .int .i64 (n : Int), .slice A l.length c] HS ?_; clear HS; intro g_p w1 hg_p HS) | ((with_reducible refine gate_dst (N := 2) rfl ?_); refine bxL 32 #[(.int .i64 0), (.int .i64 0), (.slice none 0 0)] HS ?_; clear HS; intro g_r w1 hg_r HS; have f1_ := HS.out.c 1 0 (v := .int .i64 (d : Int)) rfl rfl; have f2_ := HS.out.c 1 1 (v := .int .i64 (n : Int)) rfl rfl; have f3_ := HS.out.c 1 2 (v := .slice A l.length c) rfl rfl) | (go_at_call 109; refine (specIs d n A c l _ (HS.out.oldC HR.out) hc HB.out).mono ?_; rintro e_ w1 ⟨rfl, hb⟩; replace HS := sB HS hb; clear hb f1_ f2_ f3_; have f1_ := HS.out.c 1 0 (v := .int .i64 (d : Int)) rfl rfl; have f2_ := HS.out.c 1 1 (v := .int .i64 (n : Int)) rfl rfl; have f3_ := HS.out.c 1 2 (v := .slice A l.length c) rfl rfl) | (go_at_call 122; refine (specConstant d n A c l _ (HS.out.oldC HR.out) hc HB.out).mono ?_; rintro e_ w1 ⟨rfl, hb⟩; replace HS := sB HS hb; clear hb f1_ f2_ f3_) | (go_at_call 92; refine (specZero _ _ _).mono ?_; rintro e_ w1 ⟨rfl, hb⟩; replace HS := sB HS hb; clear hb; have f1_ := HS.out.c 1 0 (v := .int .i64 (d : Int)) rfl rfl; have f2_ := HS.out.c 1 1 (v := .int .i64 (n : Int)) rfl rfl; have f3_ := HS.out.c 1 2 (v := .slice A l.length c) rfl rfl) | (go_at_call 160; refine (HP.out _ (HS.out.oldC HR.out)).mono ?_; rintro e_ w1 ⟨B, b, rfl, hs⟩; replace HS := sN1 HS hs; clear hs f1_ f2_ f3_) | ((with_reducible refine gate_dst (N := 4) rfl ?_); refine bxL 32 #[(.int .i64 0), (.int .i64 0), (.slice none 0 0)] HS ?_; clear HS; intro g_y w1 hg_y HS) | ((with_reducible refine gate_store (t := 32) (p := 4) rfl ?_); refine stL HS 0 0 #[.int .i64 (d : Int), .int .i64 (n : Int), .slice B z.length b] rfl rfl rfl rfl rfl ?_; clear HS; intro w1 HS; have f1_ := HS.out.c 0 0 (v := .int .i64 (d : Int)) rfl rfl; have f2_ := HS.out.c 0 1 (v := .int .i64 (n : Int)) rfl rfl; have f3_ := HS.out.c 0 2 (v := .slice B z.length b) rfl rfl) | ((with_reducible refine gate_store (t := 32) (p := 2) rfl ?_); refine stL HS 2 0 #[.int .i64 (d : Int), .int .i64 (n : Int), .slice B z.length b] rfl rfl rfl rfl rfl ?_; clear HS f1_ f2_ f3_; intro w1 HS))
        refine bodyPost_ret (results_cell_tmp_row rfl _ _ g_r 32 #[.int .i64 (d : Int), .int .i64 (n : Int), .slice B z.length b] (0, 0) _ rfl (HS.out.at (i := 2) rfl) Try.underlying32 rfl (by kernel_rfl)) rfl ?_
        exact ⟨B, b, rfl, HS.out.sel [1] (by decide)⟩
    · have hzb : ((co l eps).1 == 0) = false := by simpa using hz
      rw [if_neg hz]
      clear hz
      go_enter Try.func83, Try.ntmps83
      go_wp2_with (first | ((with_reducible refine gate_dst (N := 1) rfl ?_); refine bxL 32 #[.int .i64 (d : Int), .int .i64 (n : Int), .slice A l.length c] HS ?_; clear HS; intro g_p w1 hg_p HS) | ((with_reducible refine gate_dst (N := 2) rfl ?_); refine bxL 32 #[(.int .i64 0), (.int .i64 0), (.slice none 0 0)] HS ?_; clear HS; intro g_r w1 hg_r HS; have f1_ := HS.out.c 1 0 (v := .int .i64 (d : Int)) rfl rfl; have f2_ := HS.out.c 1 1 (v := .int .i64 (n : Int)) rfl rfl; have f3_ := HS.out.c 1 2 (v := .slice A l.length c) rfl rfl) | (go_at_call 109; refine (specIs d n A c l _ (HS.out.oldC HR.out) hc HB.out).mono ?_; rintro e_ w1 ⟨rfl, hb⟩; replace HS := sB HS hb; clear hb f1_ f2_ f3_; have f1_ := HS.out.c 1 0 (v := .int .i64 (d : Int)) rfl rfl; have f2_ := HS.out.c 1 1 (v := .int .i64 (n : Int)) rfl rfl; have f3_ := HS.out.c 1 2 (v := .slice A l.length c) rfl rfl) | (go_at_call 122; refine (specConstant d n A c l _ (HS.out.oldC HR.out) hc HB.out).mono ?_; rintro e_ w1 ⟨rfl, hb⟩; replace HS := sB HS hb; clear hb f1_ f2_ f3_) | (go_at_call 92; refine (specZero _ _ _).mono ?_; rintro e_ w1 ⟨rfl, hb⟩; replace HS := sB HS hb; clear hb) | ((with_reducible refine gate_store (t := 32) (p := 2) rfl ?_); refine stL HS 0 0 #[(.int .i64 0), (.int .i64 0), (.slice none 0 0)] rfl rfl rfl rfl rfl ?_; clear HS; intro w1 HS))
      refine bodyPost_ret (results_cell_tmp_row rfl _ _ g_r 32 #[(.int .i64 0), (.int .i64 0), (.slice none 0 0)] (0, 0) _ rfl (HS.out.at (i := 0) rfl) Try.underlying32 rfl (by kernel_rfl)) rfl ?_
      exact ⟨none, 0, rfl, nilS (HS.out.sel [] (by decide))⟩
set_option maxHeartbeats 8000000 in
theorem implExponentialOf (d n : Int) (A : Option Addr) (c : Nat) (l : Ts) (w : World) (hr : KT.C w A l.length l) (hc : l.length ≤ c) (hb : bnd l = true) :
    Calls Try.prog 84 #[.agg #[.int .i64 d, .int .i64 n, .slice A l.length c]] w (RetS w (expR d n l)) := by
  have HR := Aside0.mk hr
  have HB := Aside0.mk hb
  have HS := Aside0.mk (Sep.refl w)
  clear hr hb
  unfold expR
  cases h : isS d n l with
  | false =>
    go_enter Try.func84, Try.ntmps84
    go_wp2_with (first | ((with_reducible refine gate_dst (N := 1) rfl ?_); refine bxL 32 #[.int .i64 d, .int .i64 n, .slice A l.length c] HS ?_; clear HS; intro g_p w1 hg_p HS) | ((with_reducible refine gate_dst (N := 2) rfl ?_); refine bxL 32 #[(.int .i64 0), (.int .i64 0), (.slice none 0 0)] HS ?_; clear HS; intro g_r w1 hg_r HS; have f1_ := HS.out.c 1 0 (v := .int .i64 d) rfl rfl; have f2_ := HS.out.c 1 1 (v := .int .i64 n) rfl rfl; have f3_ := HS.out.c 1 2 (v := .slice A l.length c) rfl rfl) | (go_at_call 42; refine (implIs d n A c l _ (HS.out.oldC HR.out) hc HB.out).mono ?_; rintro e_ w1 ⟨rfl, hb⟩; replace HS := sB HS hb; clear hb f1_ f2_ f3_) | ((with_reducible refine gate_store (t := 32) (p := 2) rfl ?_); refine stL HS 0 0 #[(.int .i64 0), (.int .i64 0), (.slice none 0 0)] rfl rfl rfl rfl rfl ?_; clear HS; intro w1 HS))
    refine bodyPost_ret (results_cell_tmp_row rfl _ _ g_r 32 #[(.int .i64 0), (.int .i64 0), (.slice none 0 0)] (0, 0) _ rfl (HS.out.at (i := 0) rfl) Try.underlying32 rfl (by kernel_rfl)) rfl ?_
    exact ⟨none, 0, rfl, nilS (HS.out.sel [] (by decide))⟩
  | true =>
    have HX := Aside0.mk (isS_t h)
    have hlev := isS_l h
    obtain ⟨d, n, rfl, rfl, hd1, hd3, hn1, hn5⟩ := lev_nat hlev
    have HL := Aside0.mk hlev
    clear hlev
    rw [Int.toNat_natCast, Int.toNat_natCast] at HX ⊢
    rw [if_pos rfl]
    have hN0 : 0 < nW d n := num_lt' (s := eps) (by rfl) (Nat.zero_le _)
    have HOP := Aside0.mk (fun W k1 => implOpen d n A c l W HL.out k1 HX.out)
    have HTX := Aside0.mk (fun g v W k1 k2 => tabExp (w := W) (g := g) (v := v) (F := (co l, false)) HL.out ⟨good_co HX.out, rel_self HX.out, k1, k2⟩)
    have HTT := Aside0.mk (fun g v F o W k1 => tabTold (w := W) (g := g) (v := v) (F := F) (o := o) HL.out k1)
    obtain ⟨N, hN⟩ : ∃ N, N = nW d n := ⟨_, rfl⟩
    rw [← hN] at hN0 HOP HTX
    have HNE := Aside0.mk hN
    clear hN
    by_cases hz : (co l eps).1 = 0
    · have hzb : ((co l eps).1 != 0) = false := by rw [hz]; rfl
      rw [if_pos hz]
      clear hz
      go_enter Try.func84, Try.ntmps84
      go_wp2_with (first | ((with_reducible refine gate_dst (N := 1) rfl ?_); refine bxL 32 #[.int .i64 (d : Int), .int .i64 (n : Int), .slice A l.length c] HS ?_; clear HS; intro g_p w1 hg_p HS) | ((with_reducible refine gate_dst (N := 2) rfl ?_); refine bxL 32 #[(.int .i64 0), (.int .i64 0), (.slice none 0 0)] HS ?_; clear HS; intro g_r w1 hg_r HS; have f1_ := HS.out.c 1 0 (v := .int .i64 (d : Int)) rfl rfl; have f2_ := HS.out.c 1 1 (v := .int .i64 (n : Int)) rfl rfl; have f3_ := HS.out.c 1 2 (v := .slice A l.length c) rfl rfl) | (go_at_call 42; refine (implIs d n A c l _ (HS.out.oldC HR.out) hc HB.out).mono ?_; rintro e_ w1 ⟨rfl, hb⟩; replace HS := sB HS hb; clear hb f1_ f2_ f3_; have f1_ := HS.out.c 1 0 (v := .int .i64 (d : Int)) rfl rfl; have f2_ := HS.out.c 1 1 (v := .int .i64 (n : Int)) rfl rfl; have f3_ := HS.out.c 1 2 (v := .slice A l.length c) rfl rfl) | (go_at_call 126; refine (HOP.out _ (HS.out.oldC HR.out)).mono ?_; rintro e_ w1 ⟨g, v, rfl, hs⟩; replace HS := sN2 HS hs; clear hs f1_ f2_ f3_; have f1_ := HS.out.c 0 2 (v := .slice (some ⟨v, 0, none⟩) N N) rfl rfl; have f2_ := (tab_at0 (HS.out.at (i := 1) rfl)).1) | (go_at_call 161; refine (HTX.out g v _ (HS.out.at (i := 0) rfl) (HS.out.at (i := 1) rfl)).mono ?_; rintro e_ w1 ⟨g3, v3, F3, rfl, hF, hQ, hs⟩; replace HS := sN2 HS hs; clear hs f1_ f2_; have HF3 := Aside0.mk hF; have HQ3 := Aside0.mk hQ; clear hF hQ) | (go_at_call 116; refine (HTT.out g3 v3 F3 _ _ ⟨HF3.out, HQ3.out, HS.out.at (i := 0) rfl, HS.out.at (i := 1) rfl⟩).mono ?_; rintro e_ w1 ⟨B, b, rfl, hs⟩; replace HS := sN1 HS hs; clear hs) | ((with_reducible refine gate_store (t := 32) (p := 2) rfl ?_); refine stL HS 5 0 #[.int .i64 (resO d n (expS d n l)).1, .int .i64 (resO d n (expS d n l)).2.1, .slice B (resO d n (expS d n l)).2.2.1.length b] rfl rfl rfl rfl rfl ?_; clear HS; intro w1 HS))
      refine bodyPost_ret (results_cell_tmp_row rfl _ _ g_r 32 #[.int .i64 (resO d n (expS d n l)).1, .int .i64 (resO d n (expS d n l)).2.1, .slice B (resO d n (expS d n l)).2.2.1.length b] (0, 0) _ rfl (HS.out.at (i := 5) rfl) Try.underlying32 rfl (by kernel_rfl)) rfl ?_
      exact ⟨B, b, rfl, HS.out.sel [0] (by decide)⟩
    · have hzb : ((co l eps).1 != 0) = true := by simpa using hz
      rw [if_neg hz]
      clear hz
      go_enter Try.func84, Try.ntmps84
      go_wp2_with (first | ((with_reducible refine gate_dst (N := 1) rfl ?_); refine bxL 32 #[.int .i64 (d : Int), .int .i64 (n : Int), .slice A l.length c] HS ?_; clear HS; intro g_p w1 hg_p HS) | ((with_reducible refine gate_dst (N := 2) rfl ?_); refine bxL 32 #[(.int .i64 0), (.int .i64 0), (.slice none 0 0)] HS ?_; clear HS; intro g_r w1 hg_r HS; have f1_ := HS.out.c 1 0 (v := .int .i64 (d : Int)) rfl rfl; have f2_ := HS.out.c 1 1 (v := .int .i64 (n : Int)) rfl rfl; have f3_ := HS.out.c 1 2 (v := .slice A l.length c) rfl rfl) | (go_at_call 42; refine (implIs d n A c l _ (HS.out.oldC HR.out) hc HB.out).mono ?_; rintro e_ w1 ⟨rfl, hb⟩; replace HS := sB HS hb; clear hb f1_ f2_ f3_; have f1_ := HS.out.c 1 0 (v := .int .i64 (d : Int)) rfl rfl; have f2_ := HS.out.c 1 1 (v := .int .i64 (n : Int)) rfl rfl; have f3_ := HS.out.c 1 2 (v := .slice A l.length c) rfl rfl) | (go_at_call 126; refine (HOP.out _ (HS.out.oldC HR.out)).mono ?_; rintro e_ w1 ⟨g, v, rfl, hs⟩; replace HS := sN2 HS hs; clear hs f1_ f2_ f3_; have f1_ := HS.out.c 0 2 (v := .slice (some ⟨v, 0, none⟩) N N) rfl rfl; have f2_ := (tab_at0 (HS.out.at (i := 1) rfl)).1) | ((with_reducible refine gate_store (t := 32) (p := 2) rfl ?_); refine stL HS 2 0 #[(.int .i64 0), (.int .i64 0), (.slice none 0 0)] rfl rfl rfl rfl rfl ?_; clear HS f1_ f2_; intro w1 HS))
      refine bodyPost_ret (results_cell_tmp_row rfl _ _ g_r 32 #[(.int .i64 0), (.int .i64 0), (.slice none 0 0)] (0, 0) _ rfl (HS.out.at (i := 2) rfl) Try.underlying32 rfl (by kernel_rfl)) rfl ?_
      exact ⟨none, 0, rfl, nilS (HS.out.sel [] (by decide))⟩
end Go.Proofs.Ytcklblagklojhaa.H

