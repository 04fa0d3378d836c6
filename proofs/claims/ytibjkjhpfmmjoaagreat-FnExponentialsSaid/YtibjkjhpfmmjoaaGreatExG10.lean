/- Plain facts and contracts of functions that the law's walk uses. Conditions: those that stand in each statement. -/
import Derived.Test.YtibjkjhpfmmjoaaGreatExG8
import Derived.Test.YtibjkjhpfmmjoaaGreatExG9
import Derived.Test.YtibjkjhpfmmjoaaGreatExG1
import Derived.Test.YtibjkjhpfmmjoaaGreatExG5
namespace Go.Proofs.YtibjkjhpfmmjoaaGreat.M
theorem fact_mul {i : Nat} (h : 1 ≤ i) : fact (i - 1) * i = fact i := by
  obtain ⟨j, rfl⟩ : ∃ j, i = j + 1 := ⟨i - 1, by omega⟩
  rfl
theorem fact_le {i : Nat} (h : i ≤ 5) : fact i ≤ 120 := five (p := fun i => fact i ≤ 120) (by decide) (by decide) (by decide) (by decide) (by decide) (by decide) i h
theorem fact_w {i : Nat} (h1 : 1 ≤ i) (h : i ≤ 5) : Go.RowKit.wrap64 ((fact (i - 1) : Int) * (i : Int)) = (fact i : Int) := by
  have h2 := fact_le h
  have h3 : ((fact (i - 1) : Int) * (i : Int)) = (fact i : Int) := by rw [← fact_mul h1, Int.natCast_mul]
  rw [h3]
  exact wrap_id (by omega) (by omega)
theorem expC_at {k : Nat} (h : k ≤ 5) : expC k = (1, (fact k : Int)) := by unfold expC; rw [Nat.min_eq_left h]
def expR (d n : Int) (l : Ts) : Rs := if isS d n l = true then if (co l eps).1 = 0 then resO d n (expS d.toNat n.toNat l) else noS 5 else noS 1
end Go.Proofs.YtibjkjhpfmmjoaaGreat.M
namespace Go.Proofs.YtibjkjhpfmmjoaaGreat.H
open Go.RowKit Go.Proofs.YtibjkjhpfmmjoaaGreatW.PrintWords Go.Proofs.YtibjkjhpfmmjoaaGreatW.PrintLast Go.Proofs.YtibjkjhpfmmjoaaGreatW.PrintMore Go.Proofs.YtibjkjhpfmmjoaaGreat.M
attribute [local go_sem] max2_int min2_int max_two min_two max_three min_three max_four min_four resQ
set_option linter.unusedVariables false
set_option linter.unusedSimpArgs false
set_option maxRecDepth 100000
set_option maxHeartbeats 8000000 in
theorem implFactorial (k : Nat) (hk : k ≤ 5) (w : World) : Calls Tryz.prog 100 #[.int .i64 (k : Int)] w fun e w' => e = .returned (.int .i64 ((fact k : Nat) : Int)) ∧ Below w.heap.size w w' := by
  have HS := Aside0.mk (Sep.refl w)
  go_enter Tryz.func100, Tryz.ntmps100
  go_wp2
  go_loopw [3, 4] (fun x v w' => ∃ i : Nat, 2 ≤ i ∧ (i ≤ k + 1 ∨ i = 2) ∧ v = .int .i64 (i : Int) ∧ x = .int .i64 ((fact (i - 1) : Nat) : Int) ∧ Aside0 (Mod w w' No [])) (fun _ v _ => k + 2 - (intOf v).toNat)
  case atStart => exact ⟨2, by omega, by omega, rfl, rfl, HS⟩
  case round =>
    clear HS
    obtain ⟨i, hi, hik, rfl, rfl, HS⟩ := hrel
    by_cases hlt : i ≤ k
    · have hw1 := fact_w (i := i) (by omega) (by omega)
      have hw2 := (i64_w _).trans hw1
      go_wp2
      go_roundw
      case rel => exact ⟨i + 1, by omega, by omega, by go_num, by rw [Nat.add_sub_cancel], HS⟩
      case measure => simp [intOf]; omega
    · have hle : ¬ ((i : Int) ≤ (k : Int)) := by omega
      go_wp2
      go_ret
      have e_ : fact (i - 1) = fact k := by
        rcases hik with h | h
        · rw [show i - 1 = k by omega]
        · have : k = 0 ∨ k = 1 := by omega
          subst h
          rcases this with rfl | rfl <;> rfl
      exact ⟨by rw [e_]; rfl, HS.out.below⟩
theorem implExp1 (k : Nat) (hk : k ≤ 5) (w : World) : Calls Tryz.prog 99 #[.int .i64 (k : Int)] w fun e w' => e = .returned (.agg #[.int .i64 (expC k).1, .int .i64 (expC k).2]) ∧ Below w.heap.size w w' := by
  have HE := Aside0.mk (expC_at hk)
  have HS := Aside0.mk (Sep.refl w)
  go_enter Tryz.func99, Tryz.ntmps99
  go_wp2_with (first | ((with_reducible refine gate_dst (N := 2) rfl ?_); refine bxL 37 #[(.int .i64 0), (.int .i64 0)] HS ?_; clear HS; intro g_r w1 hg_r HS) | (go_at_call 100; refine (implFactorial k hk _).mono ?_; rintro e_ w1 ⟨rfl, hb⟩; replace HS := sB HS hb; clear hb) | ((with_reducible refine gate_store (t := 37) (p := 2) rfl ?_); refine stL HS 0 0 #[(.int .i64 1), (.int .i64 ((fact k : Nat) : Int))] rfl rfl rfl rfl rfl ?_; clear HS; intro w1 HS))
  refine bodyPost_ret (results_cell_row rfl _ _ g_r 37 #[(.int .i64 1), (.int .i64 ((fact k : Nat) : Int))] (0, 0) _ rfl (HS.out.at (i := 0) rfl) Tryz.underlying37 rfl (by kernel_rfl)) rfl ?_
  exact ⟨by rw [HE.out], HS.out.below⟩
set_option maxHeartbeats 8000000 in
theorem tabPowers_exp {w : World} {d n g v : Nat} {F : Tb} {o : Option Ts} (hl : lev d n = true) (h : TabI w g v d n F o) :
    Calls Tryz.prog 55 #[.pointer (some ⟨g, 0, none⟩), .int .i64 0, .func (.func 99) #[] #[]] w (RetT w d n (outO d n o expC (n + 1))) := by
  obtain ⟨hd1, hd3, hn1, hn5⟩ := lev_bd hl
  have HL := Aside0.mk hl
  have H1 := Aside0.mk h
  have HT := Aside0.mk h.2.2.1
  have HS := Aside0.mk (Sep.refl w)
  have HPP := Aside0.mk (fun k (h : 0 < k) => (by obtain ⟨j, rfl⟩ : ∃ j, k = j + 1 := ⟨k - 1, by omega⟩; rfl : two (mulS d n) (powO d n o (k - 1)) o = powO d n o k))
  have HOS := Aside0.mk (fun k => outO_step (d := d) (n := n) (o := o) (c := expC) (k := k) (expC_ne k))
  clear hl h
  go_enter Tryz.func55, Tryz.ntmps55
  go_wp2_with (first | (go_at_call 110; refine (tabLike HL.out (H1.out.old HS.out)).mono ?_; rintro e_ w1 ⟨go, vo, Fo, rfl, hF, hQ, hs⟩; replace HS := sN2 HS hs; clear hs; have HFo := Aside0.mk hF; have HQo := Aside0.mk hQ; clear hF hQ) | (go_at_call 63; refine (tabUnit HL.out (H1.out.old HS.out)).mono ?_; rintro e_ w1 ⟨gp, vp, Fp, rfl, hF, hQ, hs⟩; replace HS := sN2 HS hs; clear hs; have HFp := Aside0.mk hF; have HQp := Aside0.mk hQ; clear hF hQ; have f1_ := bx_c (HS.out.oldI HT.out) 1 (v := .int .i64 (n : Int)) rfl))
  go_loopw [7, 8, 19] (fun x y q w' => ∃ (k go vo : Nat) (Fo : Tb) (gp vp : Nat) (Fp : Tb), k ≤ n + 1 ∧ q = .int .i64 (k : Int) ∧ x = .pointer (some ⟨go, 0, none⟩) ∧ y = .pointer (some ⟨gp, 0, none⟩) ∧ Aside0 (good Fo.1) ∧ Aside0 (Rel d n (outO d n o expC k) Fo) ∧ Aside0 (good Fp.1) ∧ Aside0 (Rel d n (powO d n o (k - 1)) Fp) ∧ Aside0 (Mod w w' No [tS gp vp d n (nW d n) Fp.2, tV vp d n Fp.1, tS go vo d n (nW d n) Fo.2, tV vo d n Fo.1])) (fun _ _ q _ => n + 1 - (intOf q).toNat)
  case atStart => exact ⟨0, go, vo, Fo, gp, vp, Fp, by omega, rfl, rfl, rfl, HFo, HQo, HFp, HQp, HS⟩
  case round =>
    clear HS HFo HQo HFp HQp
    obtain ⟨k, go, vo, Fo, gp, vp, Fp, hk, rfl, rfl, rfl, HFo, HQo, HFp, HQp, HS⟩ := hrel
    by_cases hlt : k < n + 1
    · by_cases h0 : 0 < k
      · have hpk := HPP.out k h0
        have HON := Aside0.mk (HOS.out k)
        go_wp2_with (first | (go_at_call 60; refine (tabTimes HL.out ⟨HFp.out, HQp.out, HS.out.at (i := 0) rfl, HS.out.at (i := 1) rfl⟩ (H1.out.old HS.out)).mono ?_; rintro e_ w1 ⟨gb, vb, Fb, rfl, hF, hQ, hs⟩; replace HS := sN2 HS hs; clear hs; have HFb := Aside0.mk hF; have HQb := Aside0.mk (hpk ▸ hQ); clear hF hQ) | (go_at_call 99; refine (implExp1 k (by omega) _).mono ?_; rintro e_ w1 ⟨rfl, hb⟩; replace HS := sB HS hb; clear hb) | (go_at_call 53; refine (tabScaled HL.out ⟨HFb.out, HQb.out, HS.out.at (i := 0) rfl, HS.out.at (i := 1) rfl⟩ (expC_fr k)).mono ?_; rintro e_ w1 ⟨gc, vc, Fc, rfl, hF, hQ, hs⟩; replace HS := sN2 HS hs; clear hs; have HFc := Aside0.mk hF; have HQc := Aside0.mk hQ; clear hF hQ) | (go_at_call 112; refine (tabSum HL.out ⟨HFo.out, HQo.out, HS.out.at (i := 6) rfl, HS.out.at (i := 7) rfl⟩ ⟨HFc.out, HQc.out, HS.out.at (i := 0) rfl, HS.out.at (i := 1) rfl⟩).mono ?_; rintro e_ w1 ⟨gd, vd, Fd, rfl, hF, hQ, hs⟩; replace HS := sN2 HS hs; clear hs; have HFd := Aside0.mk hF; have HQd := Aside0.mk hQ; clear hF hQ))
        go_roundw
        case rel => exact ⟨k + 1, gd, vd, Fd, gb, vb, Fb, by omega, by go_num, rfl, rfl, HFd, ⟨HON.out ▸ HQd.out⟩, HFb, HQb, sX HS [4, 5, 0, 1]⟩
        case measure => simp [intOf]; omega
      · have HP0 := Aside0.mk (show powO d n o (k - 1) = powO d n o k by rw [show k - 1 = k by omega])
        have HK0 := Aside0.mk (show k = 0 by omega)
        rw [HP0.out] at HQp
        have HON := Aside0.mk (HOS.out k)
        go_wp2_with (first | (go_at_call 99; refine (implExp1 k (by omega) _).mono ?_; rintro e_ w1 ⟨rfl, hb⟩; replace HS := sB HS hb; clear hb) | (go_at_call 53; refine (tabScaled HL.out ⟨HFp.out, HQp.out, HS.out.at (i := 0) rfl, HS.out.at (i := 1) rfl⟩ (expC_fr k)).mono ?_; rintro e_ w1 ⟨gc, vc, Fc, rfl, hF, hQ, hs⟩; replace HS := sN2 HS hs; clear hs; have HFc := Aside0.mk hF; have HQc := Aside0.mk hQ; clear hF hQ) | (go_at_call 112; refine (tabSum HL.out ⟨HFo.out, HQo.out, HS.out.at (i := 4) rfl, HS.out.at (i := 5) rfl⟩ ⟨HFc.out, HQc.out, HS.out.at (i := 0) rfl, HS.out.at (i := 1) rfl⟩).mono ?_; rintro e_ w1 ⟨gd, vd, Fd, rfl, hF, hQ, hs⟩; replace HS := sN2 HS hs; clear hs; have HFd := Aside0.mk hF; have HQd := Aside0.mk hQ; clear hF hQ))
        go_roundw
        case rel => exact ⟨k + 1, gd, vd, Fd, gp, vp, Fp, by omega, by go_num, rfl, rfl, HFd, ⟨HON.out ▸ HQd.out⟩, HFp, HQp, sX HS [4, 5, 0, 1]⟩
        case measure => simp [intOf]; omega
    · obtain rfl : k = n + 1 := by omega
      go_wp2
      go_ret
      exact ⟨go, vo, Fo, rfl, HFo.out, HQo.out, HS.out.sel [2, 3] (by decide)⟩
theorem tabExp {w : World} {d n g v : Nat} {F : Tb} {l : Ts} (hl : lev d n = true) (h : TabI w g v d n F (some l)) : Calls Tryz.prog 40 #[.pointer (some ⟨g, 0, none⟩)] w (RetT w d n (expS d n l)) := by
  have HL := Aside0.mk hl
  have H1 := Aside0.mk h
  have HS := Aside0.mk (Sep.refl w)
  clear hl h
  go_enter Tryz.func40, Tryz.ntmps40
  go_wp2_with (first | (go_at_call 55; refine (tabPowers_exp HL.out (H1.out.old HS.out)).mono ?_; rintro e_ w1 ⟨gd, vd, Fd, rfl, hF, hQ, hs⟩; replace HS := sN2 HS hs; clear hs; have HFd := Aside0.mk hF; have HQd := Aside0.mk hQ; clear hF hQ))
  go_ret
  exact ⟨gd, vd, Fd, rfl, HFd.out, HQd.out, HS.out⟩
set_option maxHeartbeats 8000000 in
theorem specExpQ (d n : Nat) (hd : d ≤ 3) (hn : n ≤ 5) (A : Option Addr) (c : Nat) (l : Ts) (w : World) (hr : KT.C w A l.length l) (hc : l.length ≤ c) (hx : isTs d n l = true) :
    Calls Tryz.prog 45 #[.agg #[.int .i64 (d : Int), .int .i64 (n : Int), .slice A l.length c]] w (RetQ w (resQ d n (expS d n l))) := by
  have HR := Aside0.mk hr
  have HX := Aside0.mk hx
  obtain ⟨R, hR⟩ : ∃ R, R = resQ d n (expS d n l) := ⟨_, rfl⟩
  have HP := Aside0.mk (fun C cs (y : List Fr) W k1 k2 (k3 : y = numL expC y.length) (k4 : y.length = n + 1) => (hR ▸ specSumP d n (n + 1) hd hn A c l C cs y expC W k1 hc hx k2 k3 k4 (by omega) expC_fr : Calls Tryz.prog 105 _ W (RetQ W R)))
  rw [← hR]
  have HS := Aside0.mk (Sep.refl w)
  clear hr hx hR
  go_enter Tryz.func45, Tryz.ntmps45
  go_wp2_with (first | ((with_reducible refine gate_dst (N := 1) rfl ?_); refine bxL 26 #[.int .i64 (d : Int), .int .i64 (n : Int), .slice A l.length c] HS ?_; clear HS; intro g_p w1 hg_p HS) | ((with_reducible refine gate_dst (N := 2) rfl ?_); refine bxL 26 #[(.int .i64 0), (.int .i64 0), (.slice none 0 0)] HS ?_; clear HS; intro g_r w1 hg_r HS) | ((with_reducible refine gate_dst (N := 9) rfl ?_); refine wpList_stp (fun K hK => ?_); refine stp_lit (KF) rfl 37 (by rfl) HS (xs := ([] : List Fr)) (inner := []) (by first | (go_simp; done) | (go_simp; rfl)) (fun W base ok => Reps.none _ _) (by simp) ?_; clear HS; intro A_s c_s w1 HS; refine hK _ _ ?_; clear hK K))
  go_loopw [4, 5, 6] (fun x f v w' => ∃ (k p : Nat) (C : Option Addr) (cs : Nat) (y : List Fr), k ≤ n + 1 ∧ v = .int .i64 (k : Int) ∧ f = .int .i64 (p : Int) ∧ Aside0 (p = fact (k - 1)) ∧ x = .slice C y.length cs ∧ Aside0 (y = numL expC k) ∧ Aside0 (Mod w w' No [rowF C cs y, bx g_r 26 #[(.int .i64 0), (.int .i64 0), (.slice none 0 0)], bx g_p 26 #[.int .i64 (d : Int), .int .i64 (n : Int), .slice A l.length c]])) (fun _ _ v _ => n + 1 - (intOf v).toNat)
  case atStart => exact ⟨0, 1, A_s, c_s, [], by omega, rfl, rfl, ⟨rfl⟩, rfl, ⟨rfl⟩, HS⟩
  case round =>
    clear HS
    obtain ⟨k, p, C, cs, y, hk, rfl, rfl, HPF, rfl, HY, HS⟩ := hrel
    by_cases hlt : k ≤ n
    · have hyl : y.length ≤ 6 := by rw [HY.out, numL_len]; omega
      have HE := Aside0.mk (expC_at (k := k) (by omega))
      have hw0 : wrap64 ((p : Int) * (if (k : Int) < 1 then 1 else (k : Int))) = ((fact k : Nat) : Int) := by
        rw [HPF.out]
        by_cases h1 : k = 0
        · subst h1; exact wrap_id (x := 1) (by decide) (by decide)
        · rw [if_neg (by omega)]; exact fact_w (by omega) (by omega)
      have HW0 := Aside0.mk hw0
      clear hw0
      have f1_ := HS.out.c 2 1 (v := .int .i64 (n : Int)) rfl rfl
      go_wp2_with (first | ((with_reducible refine gate_builtin (b := .append) (xs := #[.tmp 20, .tmp 23]) rfl ?_); at_builtin; refine wpList_stp (fun K hK => ?_); refine stp_app (KF) rfl (by rfl) HS 0 rfl (.tmp 20) (.tmp 23) 58 37 (.agg #[(.int .i64 0), (.int .i64 0)]) 16 rfl Tryz.underlying58 infoFrac (by kernel_rfl) (((1, (wrap64 ((p : Int) * (if (k : Int) < 1 then 1 else (k : Int))))) : Fr)) [.int .i64 1, .int .i64 (wrap64 ((p : Int) * (if (k : Int) < 1 then 1 else (k : Int))))] rfl (by first | rfl | (show Value.slice (some ⟨_, 0, none⟩) 1 1 = _; simp)) (KF_M (1, (wrap64 ((p : Int) * (if (k : Int) < 1 then 1 else (k : Int)))))) (by omega) ?_; clear HS f1_; intro A_y' c_y' y' w1 Ny' HS; simp only [List.set_cons_zero, List.set_cons_succ] at HS; refine hK _ _ ?_; clear hK K))
      go_roundw
      case rel => exact ⟨k + 1, fact k, A_y', c_y', y', by omega, by go_num, by rw [HW0.out], ⟨by rw [Nat.add_sub_cancel]⟩, rfl, ⟨by rw [Ny'.out, HY.out, numL_succ, HE.out, HW0.out]⟩, HS⟩
      case measure => simp [intOf]; omega
    · obtain rfl : k = n + 1 := by omega
      have hy2 : y = numL expC y.length := by
        have h := HY.out
        rw [show y.length = n + 1 by rw [h, numL_len]]
        exact h
      have HY2 := Aside0.mk hy2
      clear hy2
      have HYL := Aside0.mk (show y.length = n + 1 by rw [HY.out, numL_len])
      have f1_ := HS.out.c 2 1 (v := .int .i64 (n : Int)) rfl rfl
      have f2_ := HS.out.c 2 0 (v := .int .i64 (d : Int)) rfl rfl
      have f3_ := HS.out.c 2 2 (v := .slice A l.length c) rfl rfl
      go_wp2_with (first | (go_at_call 105; refine (HP.out C cs y _ (HS.out.oldC HR.out) (HS.out.reads 0 rfl) HY2.out HYL.out).mono ?_; rintro e_ w1 ⟨B, b, rfl, hs⟩; replace HS := sN1 HS hs; clear hs f1_ f2_ f3_) | ((with_reducible refine gate_dst (N := 7) rfl ?_); refine bxL 26 #[(.int .i64 0), (.int .i64 0), (.slice none 0 0)] HS ?_; clear HS; intro g_z w1 hg_z HS) | ((with_reducible refine gate_store (t := 26) (p := 7) rfl ?_); refine stL HS 0 0 #[.int .i64 R.1, .int .i64 R.2.1, .slice B R.2.2.1.length b] rfl rfl rfl rfl rfl ?_; clear HS; intro w1 HS; have f1_ := HS.out.c 0 0 (v := .int .i64 R.1) rfl rfl; have f2_ := HS.out.c 0 1 (v := .int .i64 R.2.1) rfl rfl; have f3_ := HS.out.c 0 2 (v := .slice B R.2.2.1.length b) rfl rfl) | ((with_reducible refine gate_store (t := 26) (p := 2) rfl ?_); refine stL HS 3 0 #[.int .i64 R.1, .int .i64 R.2.1, .slice B R.2.2.1.length b] rfl rfl rfl rfl rfl ?_; clear HS f1_ f2_ f3_; intro w1 HS))
      refine bodyPost_ret (results_cell_tmp_row rfl _ _ g_r 26 #[.int .i64 R.1, .int .i64 R.2.1, .slice B R.2.2.1.length b] (0, 0) _ rfl (HS.out.at (i := 3) rfl) Tryz.underlying26 rfl (by kernel_rfl)) rfl ?_
      exact ⟨B, b, rfl, HS.out.sel [1] (by decide)⟩
set_option maxHeartbeats 8000000 in
theorem specExponentialOf (d n : Int) (A : Option Addr) (c : Nat) (l : Ts) (w : World) (hr : KT.C w A l.length l) (hc : l.length ≤ c) (hb : bnd l = true) :
    Calls Tryz.prog 8 #[.agg #[.int .i64 d, .int .i64 n, .slice A l.length c]] w (RetS w (expR d n l)) := by
  have HR := Aside0.mk hr
  have HB := Aside0.mk hb
  have HS := Aside0.mk (Sep.refl w)
  clear hr hb
  unfold expR
  cases h : isS d n l with
  | false =>
    go_enter Tryz.func8, Tryz.ntmps8
    go_wp2_with (first | ((with_reducible refine gate_dst (N := 1) rfl ?_); refine bxL 26 #[.int .i64 d, .int .i64 n, .slice A l.length c] HS ?_; clear HS; intro g_p w1 hg_p HS) | ((with_reducible refine gate_dst (N := 2) rfl ?_); refine bxL 26 #[(.int .i64 0), (.int .i64 0), (.slice none 0 0)] HS ?_; clear HS; intro g_r w1 hg_r HS; have f1_ := HS.out.c 1 0 (v := .int .i64 d) rfl rfl; have f2_ := HS.out.c 1 1 (v := .int .i64 n) rfl rfl; have f3_ := HS.out.c 1 2 (v := .slice A l.length c) rfl rfl) | (go_at_call 42; refine (specIs d n A c l _ (HS.out.oldC HR.out) hc HB.out).mono ?_; rintro e_ w1 ⟨rfl, hb⟩; replace HS := sB HS hb; clear hb f1_ f2_ f3_) | ((with_reducible refine gate_store (t := 26) (p := 2) rfl ?_); refine stL HS 0 0 #[(.int .i64 0), (.int .i64 0), (.slice none 0 0)] rfl rfl rfl rfl rfl ?_; clear HS; intro w1 HS))
    refine bodyPost_ret (results_cell_tmp_row rfl _ _ g_r 26 #[(.int .i64 0), (.int .i64 0), (.slice none 0 0)] (0, 0) _ rfl (HS.out.at (i := 0) rfl) Tryz.underlying26 rfl (by kernel_rfl)) rfl ?_
    exact ⟨none, 0, rfl, nilS (HS.out.sel [] (by decide))⟩
  | true =>
    have HX := Aside0.mk (isS_t h)
    obtain ⟨d, n, rfl, rfl, hd1, hd3, hn1, hn5⟩ := lev_nat (isS_l h)
    rw [Int.toNat_natCast, Int.toNat_natCast] at HX ⊢
    rw [if_pos rfl]
    by_cases hz : (co l eps).1 = 0
    · have hzb : ((co l eps).1 == 0) = true := by rw [hz]; rfl
      rw [if_pos hz]
      have HP := Aside0.mk (fun W k1 => specExpQ d n hd3 hn5 A c l W k1 hc HX.out)
      obtain ⟨o, ho⟩ : ∃ o, o = expS d n l := ⟨_, rfl⟩
      rw [← ho] at HP
      rw [← ho]
      clear ho hz
      cases o with
      | none =>
        go_enter Tryz.func8, Tryz.ntmps8
        go_wp2_with (first | ((with_reducible refine gate_dst (N := 1) rfl ?_); refine bxL 26 #[.int .i64 (d : Int), .int .i64 (n : Int), .slice A l.length c] HS ?_; clear HS; intro g_p w1 hg_p HS) | ((with_reducible refine gate_dst (N := 2) rfl ?_); refine bxL 26 #[(.int .i64 0), (.int .i64 0), (.slice none 0 0)] HS ?_; clear HS; intro g_r w1 hg_r HS; have f1_ := HS.out.c 1 0 (v := .int .i64 (d : Int)) rfl rfl; have f2_ := HS.out.c 1 1 (v := .int .i64 (n : Int)) rfl rfl; have f3_ := HS.out.c 1 2 (v := .slice A l.length c) rfl rfl) | (go_at_call 42; refine (specIs d n A c l _ (HS.out.oldC HR.out) hc HB.out).mono ?_; rintro e_ w1 ⟨rfl, hb⟩; replace HS := sB HS hb; clear hb f1_ f2_ f3_; have f1_ := HS.out.c 1 0 (v := .int .i64 (d : Int)) rfl rfl; have f2_ := HS.out.c 1 1 (v := .int .i64 (n : Int)) rfl rfl; have f3_ := HS.out.c 1 2 (v := .slice A l.length c) rfl rfl) | (go_at_call 44; refine (specConstant d n A c l _ (HS.out.oldC HR.out) hc HB.out).mono ?_; rintro e_ w1 ⟨rfl, hb⟩; replace HS := sB HS hb; clear hb f1_ f2_ f3_) | (go_at_call 43; refine (specZero _ _ _).mono ?_; rintro e_ w1 ⟨rfl, hb⟩; replace HS := sB HS hb; clear hb; have f1_ := HS.out.c 1 0 (v := .int .i64 (d : Int)) rfl rfl; have f2_ := HS.out.c 1 1 (v := .int .i64 (n : Int)) rfl rfl; have f3_ := HS.out.c 1 2 (v := .slice A l.length c) rfl rfl) | (go_at_call 45; refine (HP.out _ (HS.out.oldC HR.out)).mono ?_; rintro e_ w1 ⟨B, b, rfl, hs⟩; replace HS := sN1 HS hs; clear hs f1_ f2_ f3_) | ((with_reducible refine gate_dst (N := 4) rfl ?_); refine bxL 26 #[(.int .i64 0), (.int .i64 0), (.slice none 0 0)] HS ?_; clear HS; intro g_y w1 hg_y HS) | ((with_reducible refine gate_store (t := 26) (p := 4) rfl ?_); refine stL HS 0 0 #[.int .i64 0, .int .i64 0, .slice B ([] : Ts).length b] rfl rfl rfl rfl rfl ?_; clear HS; intro w1 HS) | ((with_reducible refine gate_store (t := 26) (p := 2) rfl ?_); refine stL HS 2 0 #[(.int .i64 0), (.int .i64 0), (.slice none 0 0)] rfl rfl rfl rfl rfl ?_; clear HS; intro w1 HS))
        refine bodyPost_ret (results_cell_tmp_row rfl _ _ g_r 26 #[(.int .i64 0), (.int .i64 0), (.slice none 0 0)] (0, 0) _ rfl (HS.out.at (i := 2) rfl) Tryz.underlying26 rfl (by kernel_rfl)) rfl ?_
        exact ⟨none, 0, rfl, nilS (HS.out.sel [] (by decide))⟩
      | some z =>
        go_enter Tryz.func8, Tryz.ntmps8
        go_wp2_with (first | ((with_reducible refine gate_dst (N := 1) rfl ?_); refine bxL 26 #[.int .i64 (d : Int), .int .i64 (n : Int), .slice A l.length c] HS ?_; clear HS; intro g_p w1 hg_p HS) | ((with_reducible refine gate_dst (N := 2) rfl ?_); refine bxL 26 #[(.int .i64 0), (.int .i64 0), (.slice none 0 0)] HS ?_; clear HS; intro g_r w1 hg_r HS; have f1_ := HS.out.c 1 0 (v := .int .i64 (d : Int)) rfl rfl; have f2_ := HS.out.c 1 1 (v := .int .i64 (n : Int)) rfl rfl; have f3_ := HS.out.c 1 2 (v := .slice A l.length c) rfl rfl) | (go_at_call 42; refine (specIs d n A c l _ (HS.out.oldC HR.out) hc HB.out).mono ?_; rintro e_ w1 ⟨rfl, hb⟩; replace HS := sB HS hb; clear hb f1_ f2_ f3_; have f1_ := HS.out.c 1 0 (v := .int .i64 (d : Int)) rfl rfl; have f2_ := HS.out.c 1 1 (v := .int .i64 (n : Int)) rfl rfl; have f3_ := HS.out.c 1 2 (v := .slice A l.length c) rfl rfl) | (go_at_call 44; refine (specConstant d n A c l _ (HS.out.oldC HR.out) hc HB.out).mono ?_; rintro e_ w1 ⟨rfl, hb⟩; replace HS := sB HS hb; clear hb f1_ f2_ f3_) | (go_at_call 43; refine (specZero _ _ _).mono ?_; rintro e_ w1 ⟨rfl, hb⟩; replace HS := sB HS hb; clear hb; have f1_ := HS.out.c 1 0 (v := .int .i64 (d : Int)) rfl rfl; have f2_ := HS.out.c 1 1 (v := .int .i64 (n : Int)) rfl rfl; have f3_ := HS.out.c 1 2 (v := .slice A l.length c) rfl rfl) | (go_at_call 45; refine (HP.out _ (HS.out.oldC HR.out)).mono ?_; rintro e_ w1 ⟨B, b, rfl, hs⟩; replace HS := sN1 HS hs; clear hs f1_ f2_ f3_) | ((with_reducible refine gate_dst (N := 4) rfl ?_); refine bxL 26 #[(.int .i64 0), (.int .i64 0), (.slice none 0 0)] HS ?_; clear HS; intro g_y w1 hg_y HS) | ((with_reducible refine gate_store (t := 26) (p := 4) rfl ?_); refine stL HS 0 0 #[.int .i64 (d : Int), .int .i64 (n : Int), .slice B z.length b] rfl rfl rfl rfl rfl ?_; clear HS; intro w1 HS; have f1_ := HS.out.c 0 0 (v := .int .i64 (d : Int)) rfl rfl; have f2_ := HS.out.c 0 1 (v := .int .i64 (n : Int)) rfl rfl; have f3_ := HS.out.c 0 2 (v := .slice B z.length b) rfl rfl) | ((with_reducible refine gate_store (t := 26) (p := 2) rfl ?_); refine stL HS 2 0 #[.int .i64 (d : Int), .int .i64 (n : Int), .slice B z.length b] rfl rfl rfl rfl rfl ?_; clear HS f1_ f2_ f3_; intro w1 HS))
        refine bodyPost_ret (results_cell_tmp_row rfl _ _ g_r 26 #[.int .i64 (d : Int), .int .i64 (n : Int), .slice B z.length b] (0, 0) _ rfl (HS.out.at (i := 2) rfl) Tryz.underlying26 rfl (by kernel_rfl)) rfl ?_
        exact ⟨B, b, rfl, HS.out.sel [1] (by decide)⟩
    · have hzb : ((co l eps).1 == 0) = false := by simpa using hz
      rw [if_neg hz]
      clear hz
      go_enter Tryz.func8, Tryz.ntmps8
      go_wp2_with (first | ((with_reducible refine gate_dst (N := 1) rfl ?_); refine bxL 26 #[.int .i64 (d : Int), .int .i64 (n : Int), .slice A l.length c] HS ?_; clear HS; intro g_p w1 hg_p HS) | ((with_reducible refine gate_dst (N := 2) rfl ?_); refine bxL 26 #[(.int .i64 0), (.int .i64 0), (.slice none 0 0)] HS ?_; clear HS; intro g_r w1 hg_r HS; have f1_ := HS.out.c 1 0 (v := .int .i64 (d : Int)) rfl rfl; have f2_ := HS.out.c 1 1 (v := .int .i64 (n : Int)) rfl rfl; have f3_ := HS.out.c 1 2 (v := .slice A l.length c) rfl rfl) | (go_at_call 42; refine (specIs d n A c l _ (HS.out.oldC HR.out) hc HB.out).mono ?_; rintro e_ w1 ⟨rfl, hb⟩; replace HS := sB HS hb; clear hb f1_ f2_ f3_; have f1_ := HS.out.c 1 0 (v := .int .i64 (d : Int)) rfl rfl; have f2_ := HS.out.c 1 1 (v := .int .i64 (n : Int)) rfl rfl; have f3_ := HS.out.c 1 2 (v := .slice A l.length c) rfl rfl) | (go_at_call 44; refine (specConstant d n A c l _ (HS.out.oldC HR.out) hc HB.out).mono ?_; rintro e_ w1 ⟨rfl, hb⟩; replace HS := sB HS hb; clear hb f1_ f2_ f3_) | (go_at_call 43; refine (specZero _ _ _).mono ?_; rintro e_ w1 ⟨rfl, hb⟩; replace HS := sB HS hb; clear hb) | ((with_reducible refine gate_store (t := 26) (p := 2) rfl ?_); refine stL HS 0 0 #[(.int .i64 0), (.int .i64 0), (.slice none 0 0)] rfl rfl rfl rfl rfl ?_; clear HS; intro w1 HS))
      refine bodyPost_ret (results_cell_tmp_row rfl _ _ g_r 26 #[(.int .i64 0), (.int .i64 0), (.slice none 0 0)] (0, 0) _ rfl (HS.out.at (i := 0) rfl) Tryz.underlying26 rfl (by kernel_rfl)) rfl ?_
      exact ⟨none, 0, rfl, nilS (HS.out.sel [] (by decide))⟩
set_option maxHeartbeats 8000000 in
theorem implExponentialOf (d n : Int) (A : Option Addr) (c : Nat) (l : Ts) (w : World) (hr : KT.C w A l.length l) (hc : l.length ≤ c) (hb : bnd l = true) :
    Calls Tryz.prog 7 #[.agg #[.int .i64 d, .int .i64 n, .slice A l.length c]] w (RetS w (expR d n l)) := by
  have HR := Aside0.mk hr
  have HB := Aside0.mk hb
  have HS := Aside0.mk (Sep.refl w)
  clear hr hb
  unfold expR
  cases h : isS d n l with
  | false =>
    go_enter Tryz.func7, Tryz.ntmps7
    go_wp2_with (first | ((with_reducible refine gate_dst (N := 1) rfl ?_); refine bxL 26 #[.int .i64 d, .int .i64 n, .slice A l.length c] HS ?_; clear HS; intro g_p w1 hg_p HS) | ((with_reducible refine gate_dst (N := 2) rfl ?_); refine bxL 26 #[(.int .i64 0), (.int .i64 0), (.slice none 0 0)] HS ?_; clear HS; intro g_r w1 hg_r HS; have f1_ := HS.out.c 1 0 (v := .int .i64 d) rfl rfl; have f2_ := HS.out.c 1 1 (v := .int .i64 n) rfl rfl; have f3_ := HS.out.c 1 2 (v := .slice A l.length c) rfl rfl) | (go_at_call 38; refine (implIs d n A c l _ (HS.out.oldC HR.out) hc HB.out).mono ?_; rintro e_ w1 ⟨rfl, hb⟩; replace HS := sB HS hb; clear hb f1_ f2_ f3_) | ((with_reducible refine gate_store (t := 26) (p := 2) rfl ?_); refine stL HS 0 0 #[(.int .i64 0), (.int .i64 0), (.slice none 0 0)] rfl rfl rfl rfl rfl ?_; clear HS; intro w1 HS))
    refine bodyPost_ret (results_cell_tmp_row rfl _ _ g_r 26 #[(.int .i64 0), (.int .i64 0), (.slice none 0 0)] (0, 0) _ rfl (HS.out.at (i := 0) rfl) Tryz.underlying26 rfl (by kernel_rfl)) rfl ?_
    exact ⟨none, 0, rfl, nilS (HS.out.sel [] (by decide))⟩
  | true =>
    have HX := Aside0.mk (isS_t h)
    have hlev := isS_l h
    obtain ⟨d, n, rfl, rfl, hd1, hd3, hn1, hn5⟩ := lev_nat hlev
    have HL := Aside0.mk hlev
    clear hlev
    rw [Int.toNat_natCast, Int.toNat_natCast] at HX ⊢
    rw [if_pos rfl]
    have hN0 : 0 < nW d n := num_lt' (s := eps) (by rfl) (Nat.zero_le _)
    have HOP := Aside0.mk (fun W k1 => implOpen d n A c l W HL.out k1 HX.out)
    have HTX := Aside0.mk (fun g v W k1 k2 => tabExp (w := W) (g := g) (v := v) (F := (co l, false)) HL.out ⟨good_co HX.out, rel_self HX.out, k1, k2⟩)
    have HTT := Aside0.mk (fun g v F o W k1 => tabTold (w := W) (g := g) (v := v) (F := F) (o := o) HL.out k1)
    obtain ⟨N, hN⟩ : ∃ N, N = nW d n := ⟨_, rfl⟩
    rw [← hN] at hN0 HOP HTX
    have HNE := Aside0.mk hN
    clear hN
    by_cases hz : (co l eps).1 = 0
    · have hzb : ((co l eps).1 != 0) = false := by rw [hz]; rfl
      rw [if_pos hz]
      clear hz
      go_enter Tryz.func7, Tryz.ntmps7
      go_wp2_with (first | ((with_reducible refine gate_dst (N := 1) rfl ?_); refine bxL 26 #[.int .i64 (d : Int), .int .i64 (n : Int), .slice A l.length c] HS ?_; clear HS; intro g_p w1 hg_p HS) | ((with_reducible refine gate_dst (N := 2) rfl ?_); refine bxL 26 #[(.int .i64 0), (.int .i64 0), (.slice none 0 0)] HS ?_; clear HS; intro g_r w1 hg_r HS; have f1_ := HS.out.c 1 0 (v := .int .i64 (d : Int)) rfl rfl; have f2_ := HS.out.c 1 1 (v := .int .i64 (n : Int)) rfl rfl; have f3_ := HS.out.c 1 2 (v := .slice A l.length c) rfl rfl) | (go_at_call 38; refine (implIs d n A c l _ (HS.out.oldC HR.out) hc HB.out).mono ?_; rintro e_ w1 ⟨rfl, hb⟩; replace HS := sB HS hb; clear hb f1_ f2_ f3_; have f1_ := HS.out.c 1 0 (v := .int .i64 (d : Int)) rfl rfl; have f2_ := HS.out.c 1 1 (v := .int .i64 (n : Int)) rfl rfl; have f3_ := HS.out.c 1 2 (v := .slice A l.length c) rfl rfl) | (go_at_call 39; refine (HOP.out _ (HS.out.oldC HR.out)).mono ?_; rintro e_ w1 ⟨g, v, rfl, hs⟩; replace HS := sN2 HS hs; clear hs f1_ f2_ f3_; have f1_ := HS.out.c 0 2 (v := .slice (some ⟨v, 0, none⟩) N N) rfl rfl; have f2_ := (tab_at0 (HS.out.at (i := 1) rfl)).1) | (go_at_call 40; refine (HTX.out g v _ (HS.out.at (i := 0) rfl) (HS.out.at (i := 1) rfl)).mono ?_; rintro e_ w1 ⟨g3, v3, F3, rfl, hF, hQ, hs⟩; replace HS := sN2 HS hs; clear hs f1_ f2_; have HF3 := Aside0.mk hF; have HQ3 := Aside0.mk hQ; clear hF hQ) | (go_at_call 41; refine (HTT.out g3 v3 F3 _ _ ⟨HF3.out, HQ3.out, HS.out.at (i := 0) rfl, HS.out.at (i := 1) rfl⟩).mono ?_; rintro e_ w1 ⟨B, b, rfl, hs⟩; replace HS := sN1 HS hs; clear hs) | ((with_reducible refine gate_store (t := 26) (p := 2) rfl ?_); refine stL HS 5 0 #[.int .i64 (resO d n (expS d n l)).1, .int .i64 (resO d n (expS d n l)).2.1, .slice B (resO d n (expS d n l)).2.2.1.length b] rfl rfl rfl rfl rfl ?_; clear HS; intro w1 HS))
      refine bodyPost_ret (results_cell_tmp_row rfl _ _ g_r 26 #[.int .i64 (resO d n (expS d n l)).1, .int .i64 (resO d n (expS d n l)).2.1, .slice B (resO d n (expS d n l)).2.2.1.length b] (0, 0) _ rfl (HS.out.at (i := 5) rfl) Tryz.underlying26 rfl (by kernel_rfl)) rfl ?_
      exact ⟨B, b, rfl, HS.out.sel [0] (by decide)⟩
    · have hzb : ((co l eps).1 != 0) = true := by simpa using hz
      rw [if_neg hz]
      clear hz
      go_enter Tryz.func7, Tryz.ntmps7
      go_wp2_with (first | ((with_reducible refine gate_dst (N := 1) rfl ?_); refine bxL 26 #[.int .i64 (d : Int), .int .i64 (n : Int), .slice A l.length c] HS ?_; clear HS; intro g_p w1 hg_p HS) | ((with_reducible refine gate_dst (N := 2) rfl ?_); refine bxL 26 #[(.int .i64 0), (.int .i64 0), (.slice none 0 0)] HS ?_; clear HS; intro g_r w1 hg_r HS; have f1_ := HS.out.c 1 0 (v := .int .i64 (d : Int)) rfl rfl; have f2_ := HS.out.c 1 1 (v := .int .i64 (n : Int)) rfl rfl; have f3_ := HS.out.c 1 2 (v := .slice A l.length c) rfl rfl) | (go_at_call 38; refine (implIs d n A c l _ (HS.out.oldC HR.out) hc HB.out).mono ?_; rintro e_ w1 ⟨rfl, hb⟩; replace HS := sB HS hb; clear hb f1_ f2_ f3_; have f1_ := HS.out.c 1 0 (v := .int .i64 (d : Int)) rfl rfl; have f2_ := HS.out.c 1 1 (v := .int .i64 (n : Int)) rfl rfl; have f3_ := HS.out.c 1 2 (v := .slice A l.length c) rfl rfl) | (go_at_call 39; refine (HOP.out _ (HS.out.oldC HR.out)).mono ?_; rintro e_ w1 ⟨g, v, rfl, hs⟩; replace HS := sN2 HS hs; clear hs f1_ f2_ f3_; have f1_ := HS.out.c 0 2 (v := .slice (some ⟨v, 0, none⟩) N N) rfl rfl; have f2_ := (tab_at0 (HS.out.at (i := 1) rfl)).1) | ((with_reducible refine gate_store (t := 26) (p := 2) rfl ?_); refine stL HS 2 0 #[(.int .i64 0), (.int .i64 0), (.slice none 0 0)] rfl rfl rfl rfl rfl ?_; clear HS f1_ f2_; intro w1 HS))
      refine bodyPost_ret (results_cell_tmp_row rfl _ _ g_r 26 #[(.int .i64 0), (.int .i64 0), (.slice none 0 0)] (0, 0) _ rfl (HS.out.at (i := 2) rfl) Tryz.underlying26 rfl (by kernel_rfl)) rfl ?_
      exact ⟨none, 0, rfl, nilS (HS.out.sel [] (by decide))⟩
end Go.Proofs.YtibjkjhpfmmjoaaGreat.H



namespace Go.Proofs.YtibjkjhpfmmjoaaGreat.M
theorem rel_mone {d n : Nat} {F : Tb} (h : Rel d n ((some unitT).bind fun x => scS x (-1, 1)) F) : Rel d n (some mone) F := by
  have h2 : Rel d n (scS unitT (-1, 1)) F := h
  rwa [mone_sc] at h2
theorem two_less (o : Option Ts) : two sumS o (some mone) = o.bind lessS := by cases o <;> rfl
end Go.Proofs.YtibjkjhpfmmjoaaGreat.M
namespace Go.Proofs.YtibjkjhpfmmjoaaGreat.H
open Go.RowKit Go.Proofs.YtibjkjhpfmmjoaaGreatW.PrintWords Go.Proofs.YtibjkjhpfmmjoaaGreatW.PrintLast Go.Proofs.YtibjkjhpfmmjoaaGreatW.PrintMore Go.Proofs.YtibjkjhpfmmjoaaGreat.M
attribute [local go_sem] max2_int min2_int max_two min_two max_three min_three max_four min_four resQ
set_option linter.unusedVariables false
set_option linter.unusedSimpArgs false
set_option maxRecDepth 100000
set_option maxHeartbeats 8000000 in
theorem tabLess {w : World} {d n g v : Nat} {F : Tb} {o : Option Ts} (hl : lev d n = true) (h : TabI w g v d n F o) : Calls Tryz.prog 54 #[.pointer (some ⟨g, 0, none⟩)] w (RetT w d n (o.bind lessS)) := by
  have HL := Aside0.mk hl
  have H1 := Aside0.mk h
  have HS := Aside0.mk (Sep.refl w)
  clear hl h
  go_enter Tryz.func54, Tryz.ntmps54
  go_wp2_with (first | (go_at_call 63; refine (tabUnit HL.out (H1.out.old HS.out)).mono ?_; rintro e_ w1 ⟨gb, vb, Fb, rfl, hF, hQ, hs⟩; replace HS := sN2 HS hs; clear hs; have HFb := Aside0.mk hF; have HQb := Aside0.mk hQ; clear hF hQ) | (go_at_call 47; refine (implWhole (-1) _).mono ?_; rintro e_ w1 ⟨rfl, hb⟩; replace HS := sB HS hb; clear hb) | (go_at_call 53; refine (tabScaled HL.out ⟨HFb.out, HQb.out, HS.out.at (i := 0) rfl, HS.out.at (i := 1) rfl⟩ (a := (-1, 1)) (by decide)).mono ?_; rintro e_ w1 ⟨gc, vc, Fc, rfl, hF, hQ, hs⟩; replace HS := sN2 HS hs; clear hs; have HFc := Aside0.mk hF; have HQc := Aside0.mk (rel_mone hQ); clear hF hQ) | (go_at_call 112; refine (tabSum HL.out (H1.out.old HS.out) ⟨HFc.out, HQc.out, HS.out.at (i := 0) rfl, HS.out.at (i := 1) rfl⟩).mono ?_; rintro e_ w1 ⟨gd, vd, Fd, rfl, hF, hQ, hs⟩; replace HS := sN2 HS hs; clear hs; have HFd := Aside0.mk hF; have HQd := Aside0.mk hQ; clear hF hQ))
  go_ret
  exact ⟨gd, vd, Fd, rfl, HFd.out, two_less _ ▸ HQd.out, HS.out.sel [0, 1] (by decide)⟩
end Go.Proofs.YtibjkjhpfmmjoaaGreat.H



namespace Go.Proofs.YtibjkjhpfmmjoaaGreat.M
def sgI (m : Nat) : Int := if m % 2 = 1 then -1 else 1
end Go.Proofs.YtibjkjhpfmmjoaaGreat.M
namespace Go.Proofs.YtibjkjhpfmmjoaaGreat.H
open Go.RowKit Go.Proofs.YtibjkjhpfmmjoaaGreatW.PrintWords Go.Proofs.YtibjkjhpfmmjoaaGreatW.PrintLast Go.Proofs.YtibjkjhpfmmjoaaGreatW.PrintMore Go.Proofs.YtibjkjhpfmmjoaaGreat.M
attribute [local go_sem] max2_int min2_int max_two min_two max_three min_three max_four min_four
theorem implSign (m : Nat) (hm : m ≤ 6) (w : World) : Calls Tryz.prog 57 #[.int .i64 (m : Int)] w fun e w' => e = .returned (.int .i64 (sgI m)) ∧ Below w.heap.size w w' := by
  have HS := Aside0.mk (Sep.refl w)
  have h : m = 0 ∨ m = 1 ∨ m = 2 ∨ m = 3 ∨ m = 4 ∨ m = 5 ∨ m = 6 := by omega
  rcases h with rfl | rfl | rfl | rfl | rfl | rfl | rfl
  all_goals
    go_enter Tryz.func57, Tryz.ntmps57
    go_wp2
    go_ret
    exact ⟨rfl, Below.refl _ _⟩
end Go.Proofs.YtibjkjhpfmmjoaaGreat.H



namespace Go.Proofs.YtibjkjhpfmmjoaaGreat.M
theorem log_sgn {k : Nat} (h0 : 0 < k) (h : k ≤ 5) : sgI (k + 1) = (logC k).1 ∧ (k : Int) = (logC k).2 :=
  five (p := fun k => 0 < k → sgI (k + 1) = (logC k).1 ∧ (k : Int) = (logC k).2) (by decide) (by decide) (by decide) (by decide) (by decide) (by decide) k h h0
def logR (d n : Int) (l : Ts) : Rs := if isS d n l = true then if co l eps = (1, 1) then resO d n (logS d.toNat n.toNat l) else noS 5 else noS 1
end Go.Proofs.YtibjkjhpfmmjoaaGreat.M
namespace Go.Proofs.YtibjkjhpfmmjoaaGreat.H
open Go.RowKit Go.Proofs.YtibjkjhpfmmjoaaGreatW.PrintWords Go.Proofs.YtibjkjhpfmmjoaaGreatW.PrintLast Go.Proofs.YtibjkjhpfmmjoaaGreatW.PrintMore Go.Proofs.YtibjkjhpfmmjoaaGreat.M
attribute [local go_sem] max2_int min2_int max_two min_two max_three min_three max_four min_four resQ
set_option linter.unusedVariables false
set_option linter.unusedSimpArgs false
set_option maxRecDepth 100000
theorem implLog1 (k : Nat) (h0 : 0 < k) (hk : k ≤ 5) (w : World) : Calls Tryz.prog 106 #[.int .i64 (k : Int)] w fun e w' => e = .returned (.agg #[.int .i64 (logC k).1, .int .i64 (logC k).2]) ∧ Below w.heap.size w w' := by
  have HE := Aside0.mk (log_sgn h0 hk)
  have HSG := Aside0.mk (fun W => (implSign (k + 1) (by omega) W : Calls Tryz.prog 57 #[.int .i64 ((k : Int) + 1)] W fun e w' => e = .returned (.int .i64 (sgI (k + 1))) ∧ Below W.heap.size W w'))
  have HS := Aside0.mk (Sep.refl w)
  go_enter Tryz.func106, Tryz.ntmps106
  go_wp2_with (first | ((with_reducible refine gate_dst (N := 2) rfl ?_); refine bxL 37 #[(.int .i64 0), (.int .i64 0)] HS ?_; clear HS; intro g_r w1 hg_r HS) | (go_at_call 57; refine (HSG.out _).mono ?_; rintro e_ w1 ⟨rfl, hb⟩; replace HS := sB HS hb; clear hb) | ((with_reducible refine gate_store (t := 37) (p := 2) rfl ?_); refine stL HS 0 0 #[(.int .i64 (sgI (k + 1))), (.int .i64 (k : Int))] rfl rfl rfl rfl rfl ?_; clear HS; intro w1 HS))
  refine bodyPost_ret (results_cell_row rfl _ _ g_r 37 #[(.int .i64 (sgI (k + 1))), (.int .i64 (k : Int))] (0, 0) _ rfl (HS.out.at (i := 0) rfl) Tryz.underlying37 rfl (by kernel_rfl)) rfl ?_
  exact ⟨by rw [← HE.out.1, ← HE.out.2], HS.out.below⟩
set_option maxHeartbeats 8000000 in
theorem tabPowers_log {w : World} {d n g v : Nat} {F : Tb} {o : Option Ts} (hl : lev d n = true) (h : TabI w g v d n F o) :
    Calls Tryz.prog 55 #[.pointer (some ⟨g, 0, none⟩), .int .i64 1, .func (.func 106) #[] #[]] w (RetT w d n (outO d n o logC (n + 1))) := by
  obtain ⟨hd1, hd3, hn1, hn5⟩ := lev_bd hl
  have HL := Aside0.mk hl
  have H1 := Aside0.mk h
  have HT := Aside0.mk h.2.2.1
  have HS := Aside0.mk (Sep.refl w)
  have HPP := Aside0.mk (fun k (h : 0 < k) => (by obtain ⟨j, rfl⟩ : ∃ j, k = j + 1 := ⟨k - 1, by omega⟩; rfl : two (mulS d n) (powO d n o (k - 1)) o = powO d n o k))
  have HOS := Aside0.mk (fun k (h0 : 0 < k) (h5 : k ≤ 5) => outO_step (d := d) (n := n) (o := o) (c := logC) (k := k) (logC_ne h0 h5))
  clear hl h
  go_enter Tryz.func55, Tryz.ntmps55
  go_wp2_with (first | (go_at_call 110; refine (tabLike HL.out (H1.out.old HS.out)).mono ?_; rintro e_ w1 ⟨go, vo, Fo, rfl, hF, hQ, hs⟩; replace HS := sN2 HS hs; clear hs; have HFo := Aside0.mk hF; have HQo := Aside0.mk hQ; clear hF hQ) | (go_at_call 63; refine (tabUnit HL.out (H1.out.old HS.out)).mono ?_; rintro e_ w1 ⟨gp, vp, Fp, rfl, hF, hQ, hs⟩; replace HS := sN2 HS hs; clear hs; have HFp := Aside0.mk hF; have HQp := Aside0.mk hQ; clear hF hQ; have f1_ := bx_c (HS.out.oldI HT.out) 1 (v := .int .i64 (n : Int)) rfl))
  go_loopw [7, 8, 19] (fun x y q w' => ∃ (k go vo : Nat) (Fo : Tb) (gp vp : Nat) (Fp : Tb), k ≤ n + 1 ∧ q = .int .i64 (k : Int) ∧ x = .pointer (some ⟨go, 0, none⟩) ∧ y = .pointer (some ⟨gp, 0, none⟩) ∧ Aside0 (good Fo.1) ∧ Aside0 (Rel d n (outO d n o logC k) Fo) ∧ Aside0 (good Fp.1) ∧ Aside0 (Rel d n (powO d n o (k - 1)) Fp) ∧ Aside0 (Mod w w' No [tS gp vp d n (nW d n) Fp.2, tV vp d n Fp.1, tS go vo d n (nW d n) Fo.2, tV vo d n Fo.1])) (fun _ _ q _ => n + 1 - (intOf q).toNat)
  case atStart => exact ⟨0, go, vo, Fo, gp, vp, Fp, by omega, rfl, rfl, rfl, HFo, HQo, HFp, HQp, HS⟩
  case round =>
    clear HS HFo HQo HFp HQp
    obtain ⟨k, go, vo, Fo, gp, vp, Fp, hk, rfl, rfl, rfl, HFo, HQo, HFp, HQp, HS⟩ := hrel
    by_cases hlt : k < n + 1
    · by_cases h0 : 0 < k
      · have hpk := HPP.out k h0
        have HON := Aside0.mk (HOS.out k h0 (by omega))
        go_wp2_with (first | (go_at_call 60; refine (tabTimes HL.out ⟨HFp.out, HQp.out, HS.out.at (i := 0) rfl, HS.out.at (i := 1) rfl⟩ (H1.out.old HS.out)).mono ?_; rintro e_ w1 ⟨gb, vb, Fb, rfl, hF, hQ, hs⟩; replace HS := sN2 HS hs; clear hs; have HFb := Aside0.mk hF; have HQb := Aside0.mk (hpk ▸ hQ); clear hF hQ) | (go_at_call 106; refine (implLog1 k h0 (by omega) _).mono ?_; rintro e_ w1 ⟨rfl, hb⟩; replace HS := sB HS hb; clear hb) | (go_at_call 53; refine (tabScaled HL.out ⟨HFb.out, HQb.out, HS.out.at (i := 0) rfl, HS.out.at (i := 1) rfl⟩ (logC_fr k)).mono ?_; rintro e_ w1 ⟨gc, vc, Fc, rfl, hF, hQ, hs⟩; replace HS := sN2 HS hs; clear hs; have HFc := Aside0.mk hF; have HQc := Aside0.mk hQ; clear hF hQ) | (go_at_call 112; refine (tabSum HL.out ⟨HFo.out, HQo.out, HS.out.at (i := 6) rfl, HS.out.at (i := 7) rfl⟩ ⟨HFc.out, HQc.out, HS.out.at (i := 0) rfl, HS.out.at (i := 1) rfl⟩).mono ?_; rintro e_ w1 ⟨gd, vd, Fd, rfl, hF, hQ, hs⟩; replace HS := sN2 HS hs; clear hs; have HFd := Aside0.mk hF; have HQd := Aside0.mk hQ; clear hF hQ))
        go_roundw
        case rel => exact ⟨k + 1, gd, vd, Fd, gb, vb, Fb, by omega, by go_num, rfl, rfl, HFd, ⟨HON.out ▸ HQd.out⟩, HFb, HQb, sX HS [4, 5, 0, 1]⟩
        case measure => simp [intOf]; omega
      · have HP0 := Aside0.mk (show powO d n o (k - 1) = powO d n o k by rw [show k - 1 = k by omega])
        have HK0 := Aside0.mk (show k = 0 by omega)
        rw [HP0.out] at HQp
        have HON := Aside0.mk (show outO d n o logC (k + 1) = outO d n o logC k by rw [HK0.out]; exact outO_skip (p := unitT) rfl (by decide))
        have h1 : ¬ (1 ≤ k) := by omega
        go_wp2
        go_roundw
        case rel => exact ⟨k + 1, go, vo, Fo, gp, vp, Fp, by omega, by go_num, rfl, rfl, HFo, ⟨HON.out ▸ HQo.out⟩, HFp, HQp, HS⟩
        case measure => simp [intOf]; omega
    · obtain rfl : k = n + 1 := by omega
      go_wp2
      go_ret
      exact ⟨go, vo, Fo, rfl, HFo.out, HQo.out, HS.out.sel [2, 3] (by decide)⟩
theorem tabLog {w : World} {d n g v : Nat} {F : Tb} {l : Ts} (hl : lev d n = true) (h : TabI w g v d n F (some l)) : Calls Tryz.prog 48 #[.pointer (some ⟨g, 0, none⟩)] w (RetT w d n (logS d n l)) := by
  have HL := Aside0.mk hl
  have H1 := Aside0.mk h
  have HS := Aside0.mk (Sep.refl w)
  clear hl h
  go_enter Tryz.func48, Tryz.ntmps48
  go_wp2_with (first | (go_at_call 54; refine (tabLess HL.out (H1.out.old HS.out)).mono ?_; rintro e_ w1 ⟨gb, vb, Fb, rfl, hF, hQ, hs⟩; replace HS := sN2 HS hs; clear hs; have HFb := Aside0.mk hF; have HQb := Aside0.mk hQ; clear hF hQ) | (go_at_call 55; refine (tabPowers_log HL.out ⟨HFb.out, HQb.out, HS.out.at (i := 0) rfl, HS.out.at (i := 1) rfl⟩).mono ?_; rintro e_ w1 ⟨gd, vd, Fd, rfl, hF, hQ, hs⟩; replace HS := sN2 HS hs; clear hs; have HFd := Aside0.mk hF; have HQd := Aside0.mk hQ; clear hF hQ))
  go_ret
  exact ⟨gd, vd, Fd, rfl, HFd.out, HQd.out, HS.out.sel [0, 1] (by decide)⟩
set_option maxHeartbeats 8000000 in
theorem specLogQ (d n : Nat) (hd : d ≤ 3) (hn1 : 1 ≤ n) (hn : n ≤ 5) (A : Option Addr) (c : Nat) (l : Ts) (w : World) (hr : KT.C w A l.length l) (hc : l.length ≤ c) (hx : isTs d n l = true) :
    Calls Tryz.prog 50 #[.agg #[.int .i64 (d : Int), .int .i64 (n : Int), .slice A l.length c]] w (RetQ w (resQ d n (logS d n l))) := by
  have hd9 : d ≤ 9 := by omega
  have HR := Aside0.mk hr
  have HLQ := Aside0.mk (fun W k1 => (by have h := specLessQ d n hd hn A c l (1, 1) W k1 hx (by decide) (by decide); rw [sc_id hd9 hx] at h; exact h : Calls Tryz.prog 107 #[.agg #[.int .i64 (d : Int), .int .i64 (n : Int), .slice A l.length c], .agg #[.int .i64 1, .int .i64 1]] W (RetQ W (resQ d n (lessS l)))))
  have HY0 := Aside0.mk (fun y (h : lessS l = some y) => less_ts hd9 hx h)
  unfold logS
  obtain ⟨o, ho⟩ : ∃ o, o = lessS l := ⟨_, rfl⟩
  rw [← ho] at HLQ HY0
  rw [← ho]
  have HS := Aside0.mk (Sep.refl w)
  clear hr hx ho
  cases o with
  | none =>
    rw [outO_none (show 2 ≤ n + 1 by omega)]
    go_enter Tryz.func50, Tryz.ntmps50
    go_wp2_with (first | ((with_reducible refine gate_dst (N := 1) rfl ?_); refine bxL 26 #[.int .i64 (d : Int), .int .i64 (n : Int), .slice A l.length c] HS ?_; clear HS; intro g_p w1 hg_p HS) | ((with_reducible refine gate_dst (N := 2) rfl ?_); refine bxL 26 #[(.int .i64 0), (.int .i64 0), (.slice none 0 0)] HS ?_; clear HS; intro g_r w1 hg_r HS))
    replace HS := sD HS
    apply region_told ((fun (A0_ : Option Addr → Nat → Nat → Act) (a' : Act) (w' : World) => ∃ (B : Option Addr) (b : Nat) (g_y : Nat), a' = A0_ B b g_y ∧ Aside0 (Mod w w' No [bx g_y 26 #[.int .i64 0, .int .i64 0, .slice B ([] : Ts).length b], rowT B b [], bx g_r 26 #[(.int .i64 0), (.int .i64 0), (.slice none 0 0)], bx g_p 26 #[.int .i64 (d : Int), .int .i64 (n : Int), .slice A l.length c]])) _)
    case h1 =>
      refine ps (.t 0 (.two 1 6 (.two 2 6 (.p 3 (.p 4 (.p 5 (.e 6 (.d 7 (.p 8 .done)))))) (.e 2 (.p 3 (.p 4 (.p 5 (.d 7 (.p 8 .done))))))) (.e 1 (.e 2 (.p 3 (.p 4 (.p 5 (.d 7 (.p 8 .done))))))))) (fun w' => w'.cell? ⟨g_p, 0, none⟩ = some (.int .i64 (d : Int)) ∧ w'.cell? ⟨g_p, 1, none⟩ = some (.int .i64 (n : Int)) ∧ w'.cell? ⟨g_p, 2, none⟩ = some (.slice A l.length c)) [7] ⟨HS.out.c 1 0 (v := .int .i64 (d : Int)) rfl rfl, HS.out.c 1 1 (v := .int .i64 (n : Int)) rfl rfl, HS.out.c 1 2 (v := .slice A l.length c) rfl rfl⟩ (fun hHeld => ?_)
      repeat (first | ((with_reducible refine gate_p ?_); refine rp rfl rfl ?_) | ((with_reducible refine gate_t ?_); refine rt rfl rfl hHeld ?_))
      refine run_two ?_ ?_
      · skip
        refine run_e rfl (fun K hK => ?_)
        refine gc Tryz.func49 (specOne 1 _) rfl rfl ?_
        rintro e_ w1 ⟨rfl, hb⟩
        refine ⟨_, rfl, ?_⟩
        replace HS := sB HS hb
        refine ge hK ⟨HS.out.c 1 0 (v := .int .i64 (d : Int)) rfl rfl, HS.out.c 1 1 (v := .int .i64 (n : Int)) rfl rfl, HS.out.c 1 2 (v := .slice A l.length c) rfl rfl⟩ (fun hHeld => ?_)
        refine run_two ?_ ?_
        · skip
          refine run_e rfl (fun K hK => ?_)
          refine gc Tryz.func107 (HLQ.out _ (HS.out.oldC HR.out)) rfl rfl ?_
          rintro e_ w1 ⟨B, b, rfl, hs⟩
          refine ⟨_, rfl, ?_⟩
          replace HS := sN1 HS hs
          refine ge hK ⟨HS.out.c 2 0 (v := .int .i64 (d : Int)) rfl rfl, HS.out.c 2 1 (v := .int .i64 (n : Int)) rfl rfl, HS.out.c 2 2 (v := .slice A l.length c) rfl rfl⟩ (fun hHeld => ?_)
          repeat (first | ((with_reducible refine gate_p ?_); refine rp rfl rfl ?_) | ((with_reducible refine gate_t ?_); refine rt rfl rfl hHeld ?_))
          refine run_e rfl (fun K hK => ?_)
          refine bx1 26 #[(.int .i64 0), (.int .i64 0), (.slice none 0 0)] HS ?_
          intro g_y w1 hg_y HS
          refine ge hK ⟨HS.out.c 3 0 (v := .int .i64 (d : Int)) rfl rfl, HS.out.c 3 1 (v := .int .i64 (n : Int)) rfl rfl, HS.out.c 3 2 (v := .slice A l.length c) rfl rfl⟩ (fun hHeld => ?_)
          refine run_d rfl (fun K hK => ?_)
          refine st1 HS 0 0 #[.int .i64 0, .int .i64 0, .slice B ([] : Ts).length b] rfl rfl rfl rfl rfl ?_
          intro w1 HS
          refine goD hK rfl ?_
          repeat (first | ((with_reducible refine gate_p ?_); refine rp rfl rfl ?_) | ((with_reducible refine gate_t ?_); refine rt rfl rfl hHeld ?_))
          refine run_done ?_
          exact ⟨B, b, g_y, rfl, HS⟩
        · skip
          refine run_e rfl (fun K hK => ?_)
          refine bx1 26 #[(.int .i64 0), (.int .i64 0), (.slice none 0 0)] HS ?_
          intro g_y w1 hg_y HS
          refine ge hK ⟨HS.out.c 2 0 (v := .int .i64 (d : Int)) rfl rfl, HS.out.c 2 1 (v := .int .i64 (n : Int)) rfl rfl, HS.out.c 2 2 (v := .slice A l.length c) rfl rfl⟩ (fun hHeld => ?_)
          refine run_e rfl (fun K hK => ?_)
          refine gc Tryz.func107 (HLQ.out _ (HS.out.oldC HR.out)) rfl rfl ?_
          rintro e_ w1 ⟨B, b, rfl, hs⟩
          refine ⟨_, rfl, ?_⟩
          replace HS := sN1 HS hs
          refine ge hK ⟨HS.out.c 3 0 (v := .int .i64 (d : Int)) rfl rfl, HS.out.c 3 1 (v := .int .i64 (n : Int)) rfl rfl, HS.out.c 3 2 (v := .slice A l.length c) rfl rfl⟩ (fun hHeld => ?_)
          repeat (first | ((with_reducible refine gate_p ?_); refine rp rfl rfl ?_) | ((with_reducible refine gate_t ?_); refine rt rfl rfl hHeld ?_))
          refine run_d rfl (fun K hK => ?_)
          refine st1 HS 1 0 #[.int .i64 0, .int .i64 0, .slice B ([] : Ts).length b] rfl rfl rfl rfl rfl ?_
          intro w1 HS
          refine goD hK rfl ?_
          repeat (first | ((with_reducible refine gate_p ?_); refine rp rfl rfl ?_) | ((with_reducible refine gate_t ?_); refine rt rfl rfl hHeld ?_))
          refine run_done ?_
          have n_ := HS.out.sel [1, 0, 2, 3] (by decide)
          simp only [List.filterMap_cons, List.filterMap_nil, List.getElem?_cons_zero, List.getElem?_cons_succ] at n_
          exact ⟨B, b, g_y, rfl, ⟨n_⟩⟩
      · skip
        refine run_e rfl (fun K hK => ?_)
        refine bx1 26 #[(.int .i64 0), (.int .i64 0), (.slice none 0 0)] HS ?_
        intro g_y w1 hg_y HS
        refine ge hK ⟨HS.out.c 2 0 (v := .int .i64 (d : Int)) rfl rfl, HS.out.c 2 1 (v := .int .i64 (n : Int)) rfl rfl, HS.out.c 2 2 (v := .slice A l.length c) rfl rfl⟩ (fun hHeld => ?_)
        refine run_e rfl (fun K hK => ?_)
        refine gc Tryz.func49 (specOne 1 _) rfl rfl ?_
        rintro e_ w1 ⟨rfl, hb⟩
        refine ⟨_, rfl, ?_⟩
        replace HS := sB HS hb
        refine ge hK ⟨HS.out.c 2 0 (v := .int .i64 (d : Int)) rfl rfl, HS.out.c 2 1 (v := .int .i64 (n : Int)) rfl rfl, HS.out.c 2 2 (v := .slice A l.length c) rfl rfl⟩ (fun hHeld => ?_)
        refine run_e rfl (fun K hK => ?_)
        refine gc Tryz.func107 (HLQ.out _ (HS.out.oldC HR.out)) rfl rfl ?_
        rintro e_ w1 ⟨B, b, rfl, hs⟩
        refine ⟨_, rfl, ?_⟩
        replace HS := sN1 HS hs
        refine ge hK ⟨HS.out.c 3 0 (v := .int .i64 (d : Int)) rfl rfl, HS.out.c 3 1 (v := .int .i64 (n : Int)) rfl rfl, HS.out.c 3 2 (v := .slice A l.length c) rfl rfl⟩ (fun hHeld => ?_)
        repeat (first | ((with_reducible refine gate_p ?_); refine rp rfl rfl ?_) | ((with_reducible refine gate_t ?_); refine rt rfl rfl hHeld ?_))
        refine run_d rfl (fun K hK => ?_)
        refine st1 HS 1 0 #[.int .i64 0, .int .i64 0, .slice B ([] : Ts).length b] rfl rfl rfl rfl rfl ?_
        intro w1 HS
        refine goD hK rfl ?_
        repeat (first | ((with_reducible refine gate_p ?_); refine rp rfl rfl ?_) | ((with_reducible refine gate_t ?_); refine rt rfl rfl hHeld ?_))
        refine run_done ?_
        have n_ := HS.out.sel [1, 0, 2, 3] (by decide)
        simp only [List.filterMap_cons, List.filterMap_nil, List.getElem?_cons_zero, List.getElem?_cons_succ] at n_
        exact ⟨B, b, g_y, rfl, ⟨n_⟩⟩
    clear HS
    rintro a_ w1 ⟨B, b, g_y, rfl, HS⟩
    go_wp2_with (first | ((with_reducible refine gate_store (t := 26) (p := 2) rfl ?_); refine stL HS 2 0 #[(.int .i64 0), (.int .i64 0), (.slice none 0 0)] rfl rfl rfl rfl rfl ?_; clear HS; intro w1 HS))
    refine bodyPost_ret (results_cell_tmp_row rfl _ _ g_r 26 #[(.int .i64 0), (.int .i64 0), (.slice none 0 0)] (0, 0) _ rfl (HS.out.at (i := 2) rfl) Tryz.underlying26 rfl (by kernel_rfl)) rfl ?_
    exact ⟨none, 0, rfl, nilS (HS.out.sel [] (by decide))⟩
  | some yl =>
    have HX := Aside0.mk (HY0.out yl rfl)
    obtain ⟨R, hR⟩ : ∃ R, R = resQ d n (outO d n (some yl) logC (n + 1)) := ⟨_, rfl⟩
    have HP := Aside0.mk (fun B b C cs (y : List Fr) W k1 k0 k2 (k3 : y = numL logC y.length) (k4 : y.length = n + 1) => (hR ▸ specSumP d n (n + 1) hd hn B b yl C cs y logC W k1 k0 HX.out k2 k3 k4 (by omega) logC_fr : Calls Tryz.prog 105 _ W (RetQ W R)))
    rw [← hR]
    clear hR HY0
    go_enter Tryz.func50, Tryz.ntmps50
    go_wp2_with (first | ((with_reducible refine gate_dst (N := 1) rfl ?_); refine bxL 26 #[.int .i64 (d : Int), .int .i64 (n : Int), .slice A l.length c] HS ?_; clear HS; intro g_p w1 hg_p HS) | ((with_reducible refine gate_dst (N := 2) rfl ?_); refine bxL 26 #[(.int .i64 0), (.int .i64 0), (.slice none 0 0)] HS ?_; clear HS; intro g_r w1 hg_r HS))
    replace HS := sD HS
    apply region_told ((fun (A0_ : Option Addr → Nat → Nat → Act) (a' : Act) (w' : World) => ∃ (B : Option Addr) (b : Nat) (g_q : Nat), a' = A0_ B b g_q ∧ Aside0 (Mod w w' No [bx g_q 26 #[.int .i64 (d : Int), .int .i64 (n : Int), .slice B yl.length b], rowT B b yl, bx g_r 26 #[(.int .i64 0), (.int .i64 0), (.slice none 0 0)], bx g_p 26 #[.int .i64 (d : Int), .int .i64 (n : Int), .slice A l.length c]])) _)
    case h1 =>
      refine ps (.t 0 (.two 1 6 (.two 2 6 (.p 3 (.p 4 (.p 5 (.e 6 (.d 7 (.p 8 .done)))))) (.e 2 (.p 3 (.p 4 (.p 5 (.d 7 (.p 8 .done))))))) (.e 1 (.e 2 (.p 3 (.p 4 (.p 5 (.d 7 (.p 8 .done))))))))) (fun w' => w'.cell? ⟨g_p, 0, none⟩ = some (.int .i64 (d : Int)) ∧ w'.cell? ⟨g_p, 1, none⟩ = some (.int .i64 (n : Int)) ∧ w'.cell? ⟨g_p, 2, none⟩ = some (.slice A l.length c)) [7] ⟨HS.out.c 1 0 (v := .int .i64 (d : Int)) rfl rfl, HS.out.c 1 1 (v := .int .i64 (n : Int)) rfl rfl, HS.out.c 1 2 (v := .slice A l.length c) rfl rfl⟩ (fun hHeld => ?_)
      repeat (first | ((with_reducible refine gate_p ?_); refine rp rfl rfl ?_) | ((with_reducible refine gate_t ?_); refine rt rfl rfl hHeld ?_))
      refine run_two ?_ ?_
      · skip
        refine run_e rfl (fun K hK => ?_)
        refine gc Tryz.func49 (specOne 1 _) rfl rfl ?_
        rintro e_ w1 ⟨rfl, hb⟩
        refine ⟨_, rfl, ?_⟩
        replace HS := sB HS hb
        refine ge hK ⟨HS.out.c 1 0 (v := .int .i64 (d : Int)) rfl rfl, HS.out.c 1 1 (v := .int .i64 (n : Int)) rfl rfl, HS.out.c 1 2 (v := .slice A l.length c) rfl rfl⟩ (fun hHeld => ?_)
        refine run_two ?_ ?_
        · skip
          refine run_e rfl (fun K hK => ?_)
          refine gc Tryz.func107 (HLQ.out _ (HS.out.oldC HR.out)) rfl rfl ?_
          rintro e_ w1 ⟨B, b, rfl, hs⟩
          refine ⟨_, rfl, ?_⟩
          replace HS := sN1 HS hs
          refine ge hK ⟨HS.out.c 2 0 (v := .int .i64 (d : Int)) rfl rfl, HS.out.c 2 1 (v := .int .i64 (n : Int)) rfl rfl, HS.out.c 2 2 (v := .slice A l.length c) rfl rfl⟩ (fun hHeld => ?_)
          repeat (first | ((with_reducible refine gate_p ?_); refine rp rfl rfl ?_) | ((with_reducible refine gate_t ?_); refine rt rfl rfl hHeld ?_))
          refine run_e rfl (fun K hK => ?_)
          refine bx1 26 #[(.int .i64 0), (.int .i64 0), (.slice none 0 0)] HS ?_
          intro g_q w1 hg_q HS
          refine ge hK ⟨HS.out.c 3 0 (v := .int .i64 (d : Int)) rfl rfl, HS.out.c 3 1 (v := .int .i64 (n : Int)) rfl rfl, HS.out.c 3 2 (v := .slice A l.length c) rfl rfl⟩ (fun hHeld => ?_)
          refine run_d rfl (fun K hK => ?_)
          refine st1 HS 0 0 #[.int .i64 (d : Int), .int .i64 (n : Int), .slice B yl.length b] rfl rfl rfl rfl rfl ?_
          intro w1 HS
          refine goD hK rfl ?_
          repeat (first | ((with_reducible refine gate_p ?_); refine rp rfl rfl ?_) | ((with_reducible refine gate_t ?_); refine rt rfl rfl hHeld ?_))
          refine run_done ?_
          exact ⟨B, b, g_q, rfl, HS⟩
        · skip
          refine run_e rfl (fun K hK => ?_)
          refine bx1 26 #[(.int .i64 0), (.int .i64 0), (.slice none 0 0)] HS ?_
          intro g_q w1 hg_q HS
          refine ge hK ⟨HS.out.c 2 0 (v := .int .i64 (d : Int)) rfl rfl, HS.out.c 2 1 (v := .int .i64 (n : Int)) rfl rfl, HS.out.c 2 2 (v := .slice A l.length c) rfl rfl⟩ (fun hHeld => ?_)
          refine run_e rfl (fun K hK => ?_)
          refine gc Tryz.func107 (HLQ.out _ (HS.out.oldC HR.out)) rfl rfl ?_
          rintro e_ w1 ⟨B, b, rfl, hs⟩
          refine ⟨_, rfl, ?_⟩
          replace HS := sN1 HS hs
          refine ge hK ⟨HS.out.c 3 0 (v := .int .i64 (d : Int)) rfl rfl, HS.out.c 3 1 (v := .int .i64 (n : Int)) rfl rfl, HS.out.c 3 2 (v := .slice A l.length c) rfl rfl⟩ (fun hHeld => ?_)
          repeat (first | ((with_reducible refine gate_p ?_); refine rp rfl rfl ?_) | ((with_reducible refine gate_t ?_); refine rt rfl rfl hHeld ?_))
          refine run_d rfl (fun K hK => ?_)
          refine st1 HS 1 0 #[.int .i64 (d : Int), .int .i64 (n : Int), .slice B yl.length b] rfl rfl rfl rfl rfl ?_
          intro w1 HS
          refine goD hK rfl ?_
          repeat (first | ((with_reducible refine gate_p ?_); refine rp rfl rfl ?_) | ((with_reducible refine gate_t ?_); refine rt rfl rfl hHeld ?_))
          refine run_done ?_
          have n_ := HS.out.sel [1, 0, 2, 3] (by decide)
          simp only [List.filterMap_cons, List.filterMap_nil, List.getElem?_cons_zero, List.getElem?_cons_succ] at n_
          exact ⟨B, b, g_q, rfl, ⟨n_⟩⟩
      · skip
        refine run_e rfl (fun K hK => ?_)
        refine bx1 26 #[(.int .i64 0), (.int .i64 0), (.slice none 0 0)] HS ?_
        intro g_q w1 hg_q HS
        refine ge hK ⟨HS.out.c 2 0 (v := .int .i64 (d : Int)) rfl rfl, HS.out.c 2 1 (v := .int .i64 (n : Int)) rfl rfl, HS.out.c 2 2 (v := .slice A l.length c) rfl rfl⟩ (fun hHeld => ?_)
        refine run_e rfl (fun K hK => ?_)
        refine gc Tryz.func49 (specOne 1 _) rfl rfl ?_
        rintro e_ w1 ⟨rfl, hb⟩
        refine ⟨_, rfl, ?_⟩
        replace HS := sB HS hb
        refine ge hK ⟨HS.out.c 2 0 (v := .int .i64 (d : Int)) rfl rfl, HS.out.c 2 1 (v := .int .i64 (n : Int)) rfl rfl, HS.out.c 2 2 (v := .slice A l.length c) rfl rfl⟩ (fun hHeld => ?_)
        refine run_e rfl (fun K hK => ?_)
        refine gc Tryz.func107 (HLQ.out _ (HS.out.oldC HR.out)) rfl rfl ?_
        rintro e_ w1 ⟨B, b, rfl, hs⟩
        refine ⟨_, rfl, ?_⟩
        replace HS := sN1 HS hs
        refine ge hK ⟨HS.out.c 3 0 (v := .int .i64 (d : Int)) rfl rfl, HS.out.c 3 1 (v := .int .i64 (n : Int)) rfl rfl, HS.out.c 3 2 (v := .slice A l.length c) rfl rfl⟩ (fun hHeld => ?_)
        repeat (first | ((with_reducible refine gate_p ?_); refine rp rfl rfl ?_) | ((with_reducible refine gate_t ?_); refine rt rfl rfl hHeld ?_))
        refine run_d rfl (fun K hK => ?_)
        refine st1 HS 1 0 #[.int .i64 (d : Int), .int .i64 (n : Int), .slice B yl.length b] rfl rfl rfl rfl rfl ?_
        intro w1 HS
        refine goD hK rfl ?_
        repeat (first | ((with_reducible refine gate_p ?_); refine rp rfl rfl ?_) | ((with_reducible refine gate_t ?_); refine rt rfl rfl hHeld ?_))
        refine run_done ?_
        have n_ := HS.out.sel [1, 0, 2, 3] (by decide)
        simp only [List.filterMap_cons, List.filterMap_nil, List.getElem?_cons_zero, List.getElem?_cons_succ] at n_
        exact ⟨B, b, g_q, rfl, ⟨n_⟩⟩
    clear HS
    rintro a_ w1 ⟨B, b, g_q, rfl, HS⟩
    go_wp2_with (first | (go_at_call 49; refine (specOne 0 _).mono ?_; rintro e_ w1 ⟨rfl, hb⟩; replace HS := sB HS hb; clear hb) | ((with_reducible refine gate_dst (N := 20) rfl ?_); refine wpList_stp (fun K hK => ?_); refine stp_lit (KF) rfl 37 (by rfl) HS (xs := [((0, 1) : Fr)]) (inner := [.int .i64 0, .int .i64 1]) (by first | (go_simp; done) | (go_simp; rfl)) (fun W base ok => Reps.snoc (Reps.none _ _) (KF_M (0, 1) W base ok) rfl) (by simp) ?_; clear HS; intro A_s c_s w1 HS; refine hK _ _ ?_; clear hK K))
    go_loopw [6, 7] (fun x v w' => ∃ (k : Nat) (C : Option Addr) (cs : Nat) (y : List Fr), 1 ≤ k ∧ k ≤ n + 1 ∧ v = .int .i64 (k : Int) ∧ x = .slice C y.length cs ∧ Aside0 (y = numL logC k) ∧ Aside0 (Mod w w' No [rowF C cs y, bx g_q 26 #[.int .i64 (d : Int), .int .i64 (n : Int), .slice B yl.length b], rowT B b yl, bx g_r 26 #[(.int .i64 0), (.int .i64 0), (.slice none 0 0)], bx g_p 26 #[.int .i64 (d : Int), .int .i64 (n : Int), .slice A l.length c]])) (fun _ v _ => n + 1 - (intOf v).toNat)
    case atStart => exact ⟨1, A_s, c_s, [(0, 1)], by omega, by omega, rfl, rfl, ⟨rfl⟩, HS⟩
    case round =>
      clear HS
      obtain ⟨k, C, cs, y, hk1, hk, rfl, rfl, HY, HS⟩ := hrel
      by_cases hlt : k ≤ n
      · have hyl : y.length ≤ 6 := by rw [HY.out, numL_len]; omega
        have hw0 : (2 * ((k : Int) % 2) - 1) = (logC k).1 := five (p := fun k => 0 < k → (2 * ((k : Int) % 2) - 1) = (logC k).1) (by decide) (by decide) (by decide) (by decide) (by decide) (by decide) k (by omega) (by omega)
        have hw1 := (log_sgn (k := k) (by omega) (by omega)).2
        have HW0 := Aside0.mk (show (((2 * ((k : Int) % 2) - 1), (k : Int)) : Fr) = logC k from Prod.ext hw0 hw1)
        clear hw0 hw1
        have f1_ := HS.out.c 4 1 (v := .int .i64 (n : Int)) rfl rfl
        go_wp2_with (first | ((with_reducible refine gate_builtin (b := .append) (xs := #[.tmp 27, .tmp 34]) rfl ?_); at_builtin; refine wpList_stp (fun K hK => ?_); refine stp_app (KF) rfl (by rfl) HS 0 rfl (.tmp 27) (.tmp 34) 58 37 (.agg #[(.int .i64 0), (.int .i64 0)]) 16 rfl Tryz.underlying58 infoFrac (by kernel_rfl) ((((2 * ((k : Int) % 2) - 1), (k : Int)) : Fr)) [.int .i64 (2 * ((k : Int) % 2) - 1), .int .i64 (k : Int)] rfl (by first | rfl | (show Value.slice (some ⟨_, 0, none⟩) 1 1 = _; simp)) (KF_M ((2 * ((k : Int) % 2) - 1), (k : Int))) (by omega) ?_; clear HS f1_; intro A_y' c_y' y' w1 Ny' HS; simp only [List.set_cons_zero, List.set_cons_succ] at HS; refine hK _ _ ?_; clear hK K))
        go_roundw
        case rel => exact ⟨k + 1, A_y', c_y', y', by omega, by omega, by go_num, rfl, ⟨by rw [Ny'.out, HY.out, numL_succ, HW0.out]⟩, HS⟩
        case measure => simp [intOf]; omega
      · obtain rfl : k = n + 1 := by omega
        have hy2 : y = numL logC y.length := by
          have h := HY.out
          rw [show y.length = n + 1 by rw [h, numL_len]]
          exact h
        have HY2 := Aside0.mk hy2
        clear hy2
        have HYL := Aside0.mk (show y.length = n + 1 by rw [HY.out, numL_len])
        have f1_ := HS.out.c 4 1 (v := .int .i64 (n : Int)) rfl rfl
        have f2_ := HS.out.c 1 0 (v := .int .i64 (d : Int)) rfl rfl
        have f3_ := HS.out.c 1 1 (v := .int .i64 (n : Int)) rfl rfl
        have f4_ := HS.out.c 1 2 (v := .slice B yl.length b) rfl rfl
        go_wp2_with (first | (go_at_call 105; refine (HP.out B b C cs y _ (HS.out.reads 2 rfl) (HS.out.cap 2 rfl) (HS.out.reads 0 rfl) HY2.out HYL.out).mono ?_; rintro e_ w1 ⟨B2, b2, rfl, hs⟩; replace HS := sN1 HS hs; clear hs f1_ f2_ f3_ f4_) | ((with_reducible refine gate_dst (N := 8) rfl ?_); refine bxL 26 #[(.int .i64 0), (.int .i64 0), (.slice none 0 0)] HS ?_; clear HS; intro g_z w1 hg_z HS) | ((with_reducible refine gate_store (t := 26) (p := 8) rfl ?_); refine stL HS 0 0 #[.int .i64 R.1, .int .i64 R.2.1, .slice B2 R.2.2.1.length b2] rfl rfl rfl rfl rfl ?_; clear HS; intro w1 HS; have f1_ := HS.out.c 0 0 (v := .int .i64 R.1) rfl rfl; have f2_ := HS.out.c 0 1 (v := .int .i64 R.2.1) rfl rfl; have f3_ := HS.out.c 0 2 (v := .slice B2 R.2.2.1.length b2) rfl rfl) | ((with_reducible refine gate_store (t := 26) (p := 2) rfl ?_); refine stL HS 5 0 #[.int .i64 R.1, .int .i64 R.2.1, .slice B2 R.2.2.1.length b2] rfl rfl rfl rfl rfl ?_; clear HS f1_ f2_ f3_; intro w1 HS))
        refine bodyPost_ret (results_cell_tmp_row rfl _ _ g_r 26 #[.int .i64 R.1, .int .i64 R.2.1, .slice B2 R.2.2.1.length b2] (0, 0) _ rfl (HS.out.at (i := 5) rfl) Tryz.underlying26 rfl (by kernel_rfl)) rfl ?_
        exact ⟨B2, b2, rfl, HS.out.sel [1] (by decide)⟩
set_option maxHeartbeats 8000000 in
theorem specLogarithmOf (d n : Int) (A : Option Addr) (c : Nat) (l : Ts) (w : World) (hr : KT.C w A l.length l) (hc : l.length ≤ c) (hb : bnd l = true) :
    Calls Tryz.prog 12 #[.agg #[.int .i64 d, .int .i64 n, .slice A l.length c]] w (RetS w (logR d n l)) := by
  have HR := Aside0.mk hr
  have HB := Aside0.mk hb
  have HS := Aside0.mk (Sep.refl w)
  clear hr hb
  unfold logR
  cases h : isS d n l with
  | false =>
    go_enter Tryz.func12, Tryz.ntmps12
    go_wp2_with (first | ((with_reducible refine gate_dst (N := 1) rfl ?_); refine bxL 26 #[.int .i64 d, .int .i64 n, .slice A l.length c] HS ?_; clear HS; intro g_p w1 hg_p HS) | ((with_reducible refine gate_dst (N := 2) rfl ?_); refine bxL 26 #[(.int .i64 0), (.int .i64 0), (.slice none 0 0)] HS ?_; clear HS; intro g_r w1 hg_r HS; have f1_ := HS.out.c 1 0 (v := .int .i64 d) rfl rfl; have f2_ := HS.out.c 1 1 (v := .int .i64 n) rfl rfl; have f3_ := HS.out.c 1 2 (v := .slice A l.length c) rfl rfl) | (go_at_call 42; refine (specIs d n A c l _ (HS.out.oldC HR.out) hc HB.out).mono ?_; rintro e_ w1 ⟨rfl, hb⟩; replace HS := sB HS hb; clear hb f1_ f2_ f3_) | ((with_reducible refine gate_store (t := 26) (p := 2) rfl ?_); refine stL HS 0 0 #[(.int .i64 0), (.int .i64 0), (.slice none 0 0)] rfl rfl rfl rfl rfl ?_; clear HS; intro w1 HS))
    refine bodyPost_ret (results_cell_tmp_row rfl _ _ g_r 26 #[(.int .i64 0), (.int .i64 0), (.slice none 0 0)] (0, 0) _ rfl (HS.out.at (i := 0) rfl) Tryz.underlying26 rfl (by kernel_rfl)) rfl ?_
    exact ⟨none, 0, rfl, nilS (HS.out.sel [] (by decide))⟩
  | true =>
    have HX := Aside0.mk (isS_t h)
    obtain ⟨d, n, rfl, rfl, hd1, hd3, hn1, hn5⟩ := lev_nat (isS_l h)
    rw [Int.toNat_natCast, Int.toNat_natCast] at HX ⊢
    rw [if_pos rfl]
    have HCN := Aside0.mk (fun W k1 => specConstant d n A c l W k1 hc HB.out)
    obtain ⟨e, he⟩ : ∃ e : Fr, e = co l eps := ⟨_, rfl⟩
    rw [← he] at HCN
    rw [← he]
    clear he
    by_cases hz : e = (1, 1)
    · subst hz
      rw [if_pos rfl]
      have HP := Aside0.mk (fun W k1 => specLogQ d n hd3 hn1 hn5 A c l W k1 hc HX.out)
      obtain ⟨o, ho⟩ : ∃ o, o = logS d n l := ⟨_, rfl⟩
      rw [← ho] at HP
      rw [← ho]
      clear ho
      cases o with
      | none =>
        go_enter Tryz.func12, Tryz.ntmps12
        go_wp2_with (first | ((with_reducible refine gate_dst (N := 1) rfl ?_); refine bxL 26 #[.int .i64 (d : Int), .int .i64 (n : Int), .slice A l.length c] HS ?_; clear HS; intro g_p w1 hg_p HS) | ((with_reducible refine gate_dst (N := 2) rfl ?_); refine bxL 26 #[(.int .i64 0), (.int .i64 0), (.slice none 0 0)] HS ?_; clear HS; intro g_r w1 hg_r HS; have f1_ := HS.out.c 1 0 (v := .int .i64 (d : Int)) rfl rfl; have f2_ := HS.out.c 1 1 (v := .int .i64 (n : Int)) rfl rfl; have f3_ := HS.out.c 1 2 (v := .slice A l.length c) rfl rfl) | (go_at_call 42; refine (specIs d n A c l _ (HS.out.oldC HR.out) hc HB.out).mono ?_; rintro e_ w1 ⟨rfl, hb⟩; replace HS := sB HS hb; clear hb f1_ f2_ f3_; have f1_ := HS.out.c 1 0 (v := .int .i64 (d : Int)) rfl rfl; have f2_ := HS.out.c 1 1 (v := .int .i64 (n : Int)) rfl rfl; have f3_ := HS.out.c 1 2 (v := .slice A l.length c) rfl rfl) | (go_at_call 44; refine (HCN.out _ (HS.out.oldC HR.out)).mono ?_; rintro e_ w1 ⟨rfl, hb⟩; replace HS := sB HS hb; clear hb f1_ f2_ f3_) | (go_at_call 49; refine (specOne 1 _).mono ?_; rintro e_ w1 ⟨rfl, hb⟩; replace HS := sB HS hb; clear hb; have f1_ := HS.out.c 1 0 (v := .int .i64 (d : Int)) rfl rfl; have f2_ := HS.out.c 1 1 (v := .int .i64 (n : Int)) rfl rfl; have f3_ := HS.out.c 1 2 (v := .slice A l.length c) rfl rfl) | (go_at_call 50; refine (HP.out _ (HS.out.oldC HR.out)).mono ?_; rintro e_ w1 ⟨B, b, rfl, hs⟩; replace HS := sN1 HS hs; clear hs f1_ f2_ f3_) | ((with_reducible refine gate_dst (N := 4) rfl ?_); refine bxL 26 #[(.int .i64 0), (.int .i64 0), (.slice none 0 0)] HS ?_; clear HS; intro g_y w1 hg_y HS) | ((with_reducible refine gate_store (t := 26) (p := 4) rfl ?_); refine stL HS 0 0 #[.int .i64 0, .int .i64 0, .slice B ([] : Ts).length b] rfl rfl rfl rfl rfl ?_; clear HS; intro w1 HS) | ((with_reducible refine gate_store (t := 26) (p := 2) rfl ?_); refine stL HS 2 0 #[(.int .i64 0), (.int .i64 0), (.slice none 0 0)] rfl rfl rfl rfl rfl ?_; clear HS; intro w1 HS))
        refine bodyPost_ret (results_cell_tmp_row rfl _ _ g_r 26 #[(.int .i64 0), (.int .i64 0), (.slice none 0 0)] (0, 0) _ rfl (HS.out.at (i := 2) rfl) Tryz.underlying26 rfl (by kernel_rfl)) rfl ?_
        exact ⟨none, 0, rfl, nilS (HS.out.sel [] (by decide))⟩
      | some z =>
        go_enter Tryz.func12, Tryz.ntmps12
        go_wp2_with (first | ((with_reducible refine gate_dst (N := 1) rfl ?_); refine bxL 26 #[.int .i64 (d : Int), .int .i64 (n : Int), .slice A l.length c] HS ?_; clear HS; intro g_p w1 hg_p HS) | ((with_reducible refine gate_dst (N := 2) rfl ?_); refine bxL 26 #[(.int .i64 0), (.int .i64 0), (.slice none 0 0)] HS ?_; clear HS; intro g_r w1 hg_r HS; have f1_ := HS.out.c 1 0 (v := .int .i64 (d : Int)) rfl rfl; have f2_ := HS.out.c 1 1 (v := .int .i64 (n : Int)) rfl rfl; have f3_ := HS.out.c 1 2 (v := .slice A l.length c) rfl rfl) | (go_at_call 42; refine (specIs d n A c l _ (HS.out.oldC HR.out) hc HB.out).mono ?_; rintro e_ w1 ⟨rfl, hb⟩; replace HS := sB HS hb; clear hb f1_ f2_ f3_; have f1_ := HS.out.c 1 0 (v := .int .i64 (d : Int)) rfl rfl; have f2_ := HS.out.c 1 1 (v := .int .i64 (n : Int)) rfl rfl; have f3_ := HS.out.c 1 2 (v := .slice A l.length c) rfl rfl) | (go_at_call 44; refine (HCN.out _ (HS.out.oldC HR.out)).mono ?_; rintro e_ w1 ⟨rfl, hb⟩; replace HS := sB HS hb; clear hb f1_ f2_ f3_) | (go_at_call 49; refine (specOne 1 _).mono ?_; rintro e_ w1 ⟨rfl, hb⟩; replace HS := sB HS hb; clear hb; have f1_ := HS.out.c 1 0 (v := .int .i64 (d : Int)) rfl rfl; have f2_ := HS.out.c 1 1 (v := .int .i64 (n : Int)) rfl rfl; have f3_ := HS.out.c 1 2 (v := .slice A l.length c) rfl rfl) | (go_at_call 50; refine (HP.out _ (HS.out.oldC HR.out)).mono ?_; rintro e_ w1 ⟨B, b, rfl, hs⟩; replace HS := sN1 HS hs; clear hs f1_ f2_ f3_) | ((with_reducible refine gate_dst (N := 4) rfl ?_); refine bxL 26 #[(.int .i64 0), (.int .i64 0), (.slice none 0 0)] HS ?_; clear HS; intro g_y w1 hg_y HS) | ((with_reducible refine gate_store (t := 26) (p := 4) rfl ?_); refine stL HS 0 0 #[.int .i64 (d : Int), .int .i64 (n : Int), .slice B z.length b] rfl rfl rfl rfl rfl ?_; clear HS; intro w1 HS; have f1_ := HS.out.c 0 0 (v := .int .i64 (d : Int)) rfl rfl; have f2_ := HS.out.c 0 1 (v := .int .i64 (n : Int)) rfl rfl; have f3_ := HS.out.c 0 2 (v := .slice B z.length b) rfl rfl) | ((with_reducible refine gate_store (t := 26) (p := 2) rfl ?_); refine stL HS 2 0 #[.int .i64 (d : Int), .int .i64 (n : Int), .slice B z.length b] rfl rfl rfl rfl rfl ?_; clear HS f1_ f2_ f3_; intro w1 HS))
        refine bodyPost_ret (results_cell_tmp_row rfl _ _ g_r 26 #[.int .i64 (d : Int), .int .i64 (n : Int), .slice B z.length b] (0, 0) _ rfl (HS.out.at (i := 2) rfl) Tryz.underlying26 rfl (by kernel_rfl)) rfl ?_
        exact ⟨B, b, rfl, HS.out.sel [1] (by decide)⟩
    · rw [if_neg hz]
      by_cases h1 : e.1 = 1
      · obtain ⟨e1, y⟩ := e
        have h1' : e1 = 1 := h1
        subst h1'
        have hy : ¬ y = 1 := fun h => hz (Prod.ext rfl h)
        clear hz h1
        go_enter Tryz.func12, Tryz.ntmps12
        go_wp2_with (first | ((with_reducible refine gate_dst (N := 1) rfl ?_); refine bxL 26 #[.int .i64 (d : Int), .int .i64 (n : Int), .slice A l.length c] HS ?_; clear HS; intro g_p w1 hg_p HS) | ((with_reducible refine gate_dst (N := 2) rfl ?_); refine bxL 26 #[(.int .i64 0), (.int .i64 0), (.slice none 0 0)] HS ?_; clear HS; intro g_r w1 hg_r HS; have f1_ := HS.out.c 1 0 (v := .int .i64 (d : Int)) rfl rfl; have f2_ := HS.out.c 1 1 (v := .int .i64 (n : Int)) rfl rfl; have f3_ := HS.out.c 1 2 (v := .slice A l.length c) rfl rfl) | (go_at_call 42; refine (specIs d n A c l _ (HS.out.oldC HR.out) hc HB.out).mono ?_; rintro e_ w1 ⟨rfl, hb⟩; replace HS := sB HS hb; clear hb f1_ f2_ f3_; have f1_ := HS.out.c 1 0 (v := .int .i64 (d : Int)) rfl rfl; have f2_ := HS.out.c 1 1 (v := .int .i64 (n : Int)) rfl rfl; have f3_ := HS.out.c 1 2 (v := .slice A l.length c) rfl rfl) | (go_at_call 44; refine (HCN.out _ (HS.out.oldC HR.out)).mono ?_; rintro e_ w1 ⟨rfl, hb⟩; replace HS := sB HS hb; clear hb f1_ f2_ f3_) | (go_at_call 49; refine (specOne 1 _).mono ?_; rintro e_ w1 ⟨rfl, hb⟩; replace HS := sB HS hb; clear hb) | ((with_reducible refine gate_store (t := 26) (p := 2) rfl ?_); refine stL HS 0 0 #[(.int .i64 0), (.int .i64 0), (.slice none 0 0)] rfl rfl rfl rfl rfl ?_; clear HS; intro w1 HS))
        refine bodyPost_ret (results_cell_tmp_row rfl _ _ g_r 26 #[(.int .i64 0), (.int .i64 0), (.slice none 0 0)] (0, 0) _ rfl (HS.out.at (i := 0) rfl) Tryz.underlying26 rfl (by kernel_rfl)) rfl ?_
        exact ⟨none, 0, rfl, nilS (HS.out.sel [] (by decide))⟩
      · clear hz
        go_enter Tryz.func12, Tryz.ntmps12
        go_wp2_with (first | ((with_reducible refine gate_dst (N := 1) rfl ?_); refine bxL 26 #[.int .i64 (d : Int), .int .i64 (n : Int), .slice A l.length c] HS ?_; clear HS; intro g_p w1 hg_p HS) | ((with_reducible refine gate_dst (N := 2) rfl ?_); refine bxL 26 #[(.int .i64 0), (.int .i64 0), (.slice none 0 0)] HS ?_; clear HS; intro g_r w1 hg_r HS; have f1_ := HS.out.c 1 0 (v := .int .i64 (d : Int)) rfl rfl; have f2_ := HS.out.c 1 1 (v := .int .i64 (n : Int)) rfl rfl; have f3_ := HS.out.c 1 2 (v := .slice A l.length c) rfl rfl) | (go_at_call 42; refine (specIs d n A c l _ (HS.out.oldC HR.out) hc HB.out).mono ?_; rintro e_ w1 ⟨rfl, hb⟩; replace HS := sB HS hb; clear hb f1_ f2_ f3_; have f1_ := HS.out.c 1 0 (v := .int .i64 (d : Int)) rfl rfl; have f2_ := HS.out.c 1 1 (v := .int .i64 (n : Int)) rfl rfl; have f3_ := HS.out.c 1 2 (v := .slice A l.length c) rfl rfl) | (go_at_call 44; refine (HCN.out _ (HS.out.oldC HR.out)).mono ?_; rintro e_ w1 ⟨rfl, hb⟩; replace HS := sB HS hb; clear hb f1_ f2_ f3_) | (go_at_call 49; refine (specOne 1 _).mono ?_; rintro e_ w1 ⟨rfl, hb⟩; replace HS := sB HS hb; clear hb) | ((with_reducible refine gate_store (t := 26) (p := 2) rfl ?_); refine stL HS 0 0 #[(.int .i64 0), (.int .i64 0), (.slice none 0 0)] rfl rfl rfl rfl rfl ?_; clear HS; intro w1 HS))
        refine bodyPost_ret (results_cell_tmp_row rfl _ _ g_r 26 #[(.int .i64 0), (.int .i64 0), (.slice none 0 0)] (0, 0) _ rfl (HS.out.at (i := 0) rfl) Tryz.underlying26 rfl (by kernel_rfl)) rfl ?_
        exact ⟨none, 0, rfl, nilS (HS.out.sel [] (by decide))⟩
set_option maxHeartbeats 8000000 in
theorem implLogarithmOf (d n : Int) (A : Option Addr) (c : Nat) (l : Ts) (w : World) (hr : KT.C w A l.length l) (hc : l.length ≤ c) (hb : bnd l = true) :
    Calls Tryz.prog 11 #[.agg #[.int .i64 d, .int .i64 n, .slice A l.length c]] w (RetS w (logR d n l)) := by
  have HR := Aside0.mk hr
  have HB := Aside0.mk hb
  have HS := Aside0.mk (Sep.refl w)
  clear hr hb
  unfold logR
  cases h : isS d n l with
  | false =>
    go_enter Tryz.func11, Tryz.ntmps11
    go_wp2_with (first | ((with_reducible refine gate_dst (N := 1) rfl ?_); refine bxL 26 #[.int .i64 d, .int .i64 n, .slice A l.length c] HS ?_; clear HS; intro g_p w1 hg_p HS) | ((with_reducible refine gate_dst (N := 2) rfl ?_); refine bxL 26 #[(.int .i64 0), (.int .i64 0), (.slice none 0 0)] HS ?_; clear HS; intro g_r w1 hg_r HS; have f1_ := HS.out.c 1 0 (v := .int .i64 d) rfl rfl; have f2_ := HS.out.c 1 1 (v := .int .i64 n) rfl rfl; have f3_ := HS.out.c 1 2 (v := .slice A l.length c) rfl rfl) | (go_at_call 38; refine (implIs d n A c l _ (HS.out.oldC HR.out) hc HB.out).mono ?_; rintro e_ w1 ⟨rfl, hb⟩; replace HS := sB HS hb; clear hb f1_ f2_ f3_) | ((with_reducible refine gate_store (t := 26) (p := 2) rfl ?_); refine stL HS 0 0 #[(.int .i64 0), (.int .i64 0), (.slice none 0 0)] rfl rfl rfl rfl rfl ?_; clear HS; intro w1 HS))
    refine bodyPost_ret (results_cell_tmp_row rfl _ _ g_r 26 #[(.int .i64 0), (.int .i64 0), (.slice none 0 0)] (0, 0) _ rfl (HS.out.at (i := 0) rfl) Tryz.underlying26 rfl (by kernel_rfl)) rfl ?_
    exact ⟨none, 0, rfl, nilS (HS.out.sel [] (by decide))⟩
  | true =>
    have HX := Aside0.mk (isS_t h)
    have hlev := isS_l h
    obtain ⟨d, n, rfl, rfl, hd1, hd3, hn1, hn5⟩ := lev_nat hlev
    have HL := Aside0.mk hlev
    clear hlev
    rw [Int.toNat_natCast, Int.toNat_natCast] at HX ⊢
    rw [if_pos rfl]
    have hN0 : 0 < nW d n := num_lt' (s := eps) (by rfl) (Nat.zero_le _)
    have HOP := Aside0.mk (fun W k1 => implOpen d n A c l W HL.out k1 HX.out)
    have HTX := Aside0.mk (fun g v W k1 k2 => tabLog (w := W) (g := g) (v := v) (F := (co l, false)) HL.out ⟨good_co HX.out, rel_self HX.out, k1, k2⟩)
    have HTT := Aside0.mk (fun g v F o W k1 => tabTold (w := W) (g := g) (v := v) (F := F) (o := o) HL.out k1)
    obtain ⟨N, hN⟩ : ∃ N, N = nW d n := ⟨_, rfl⟩
    rw [← hN] at hN0 HOP HTX
    clear hN
    obtain ⟨e, he⟩ : ∃ e : Fr, e = co l eps := ⟨_, rfl⟩
    have HE := Aside0.mk he.symm
    rw [← he]
    clear he
    by_cases hz : e = (1, 1)
    · subst hz
      rw [if_pos rfl]
      go_enter Tryz.func11, Tryz.ntmps11
      go_wp2_with (first | ((with_reducible refine gate_dst (N := 1) rfl ?_); refine bxL 26 #[.int .i64 (d : Int), .int .i64 (n : Int), .slice A l.length c] HS ?_; clear HS; intro g_p w1 hg_p HS) | ((with_reducible refine gate_dst (N := 2) rfl ?_); refine bxL 26 #[(.int .i64 0), (.int .i64 0), (.slice none 0 0)] HS ?_; clear HS; intro g_r w1 hg_r HS; have f1_ := HS.out.c 1 0 (v := .int .i64 (d : Int)) rfl rfl; have f2_ := HS.out.c 1 1 (v := .int .i64 (n : Int)) rfl rfl; have f3_ := HS.out.c 1 2 (v := .slice A l.length c) rfl rfl) | (go_at_call 38; refine (implIs d n A c l _ (HS.out.oldC HR.out) hc HB.out).mono ?_; rintro e_ w1 ⟨rfl, hb⟩; replace HS := sB HS hb; clear hb f1_ f2_ f3_; have f1_ := HS.out.c 1 0 (v := .int .i64 (d : Int)) rfl rfl; have f2_ := HS.out.c 1 1 (v := .int .i64 (n : Int)) rfl rfl; have f3_ := HS.out.c 1 2 (v := .slice A l.length c) rfl rfl) | (go_at_call 39; refine (HOP.out _ (HS.out.oldC HR.out)).mono ?_; rintro e_ w1 ⟨g, v, rfl, hs⟩; replace HS := sN2 HS hs; clear hs f1_ f2_ f3_))
      replace HS := sD HS
      refine ps (.p 0 (.p 1 (.p 2 (.t 3 (.p 4 (.t 5 (.e 6 (.p 7 .done)))))))) (fun w' => w'.cell? ⟨g, 2, none⟩ = some (.slice (some ⟨v, 0, none⟩) N N) ∧ w'.cell? ⟨v, 0, none⟩ = some (.int .i64 1) ∧ w'.cell? ⟨v, 1, none⟩ = some (.int .i64 1)) [] ⟨HS.out.c 0 2 (v := .slice (some ⟨v, 0, none⟩) N N) rfl rfl, ((tab_at0 (HS.out.at (i := 1) rfl)).1.trans (by rw [HE.out])), ((tab_at0 (HS.out.at (i := 1) rfl)).2.trans (by rw [HE.out]))⟩ (fun hHeld => ?_)
      repeat (first | ((with_reducible refine gate_p ?_); refine rp rfl rfl ?_) | ((with_reducible refine gate_t ?_); refine rt rfl rfl hHeld ?_))
      refine run_e rfl (fun K hK => ?_)
      refine gc Tryz.func47 (implWhole 1 _) rfl rfl ?_
      rintro e_ w1 ⟨rfl, hb⟩
      refine ⟨_, rfl, ?_⟩
      replace HS := sB HS hb
      clear hb
      refine ge hK ⟨HS.out.c 0 2 (v := .slice (some ⟨v, 0, none⟩) N N) rfl rfl, ((tab_at0 (HS.out.at (i := 1) rfl)).1.trans (by rw [HE.out])), ((tab_at0 (HS.out.at (i := 1) rfl)).2.trans (by rw [HE.out]))⟩ (fun hHeld => ?_)
      clear hK K
      repeat (first | ((with_reducible refine gate_p ?_); refine rp rfl rfl ?_) | ((with_reducible refine gate_t ?_); refine rt rfl rfl hHeld ?_))
      refine run_done ?_
      clear hHeld
      go_wp2_with (first | (go_at_call 48; refine (HTX.out g v _ (HS.out.at (i := 0) rfl) (HS.out.at (i := 1) rfl)).mono ?_; rintro e_ w1 ⟨g3, v3, F3, rfl, hF, hQ, hs⟩; replace HS := sN2 HS hs; clear hs; have HF3 := Aside0.mk hF; have HQ3 := Aside0.mk hQ; clear hF hQ) | (go_at_call 41; refine (HTT.out g3 v3 F3 _ _ ⟨HF3.out, HQ3.out, HS.out.at (i := 0) rfl, HS.out.at (i := 1) rfl⟩).mono ?_; rintro e_ w1 ⟨B, b, rfl, hs⟩; replace HS := sN1 HS hs; clear hs) | ((with_reducible refine gate_store (t := 26) (p := 2) rfl ?_); refine stL HS 5 0 #[.int .i64 (resO d n (logS d n l)).1, .int .i64 (resO d n (logS d n l)).2.1, .slice B (resO d n (logS d n l)).2.2.1.length b] rfl rfl rfl rfl rfl ?_; clear HS; intro w1 HS))
      refine bodyPost_ret (results_cell_tmp_row rfl _ _ g_r 26 #[.int .i64 (resO d n (logS d n l)).1, .int .i64 (resO d n (logS d n l)).2.1, .slice B (resO d n (logS d n l)).2.2.1.length b] (0, 0) _ rfl (HS.out.at (i := 5) rfl) Tryz.underlying26 rfl (by kernel_rfl)) rfl ?_
      exact ⟨B, b, rfl, HS.out.sel [0] (by decide)⟩
    · rw [if_neg hz]
      by_cases h1 : e.1 = 1
      · obtain ⟨e1, y⟩ := e
        have h1' : e1 = 1 := h1
        subst h1'
        have hy : ¬ y = 1 := fun h => hz (Prod.ext rfl h)
        clear hz h1
        go_enter Tryz.func11, Tryz.ntmps11
        go_wp2_with (first | ((with_reducible refine gate_dst (N := 1) rfl ?_); refine bxL 26 #[.int .i64 (d : Int), .int .i64 (n : Int), .slice A l.length c] HS ?_; clear HS; intro g_p w1 hg_p HS) | ((with_reducible refine gate_dst (N := 2) rfl ?_); refine bxL 26 #[(.int .i64 0), (.int .i64 0), (.slice none 0 0)] HS ?_; clear HS; intro g_r w1 hg_r HS; have f1_ := HS.out.c 1 0 (v := .int .i64 (d : Int)) rfl rfl; have f2_ := HS.out.c 1 1 (v := .int .i64 (n : Int)) rfl rfl; have f3_ := HS.out.c 1 2 (v := .slice A l.length c) rfl rfl) | (go_at_call 38; refine (implIs d n A c l _ (HS.out.oldC HR.out) hc HB.out).mono ?_; rintro e_ w1 ⟨rfl, hb⟩; replace HS := sB HS hb; clear hb f1_ f2_ f3_; have f1_ := HS.out.c 1 0 (v := .int .i64 (d : Int)) rfl rfl; have f2_ := HS.out.c 1 1 (v := .int .i64 (n : Int)) rfl rfl; have f3_ := HS.out.c 1 2 (v := .slice A l.length c) rfl rfl) | (go_at_call 39; refine (HOP.out _ (HS.out.oldC HR.out)).mono ?_; rintro e_ w1 ⟨g, v, rfl, hs⟩; replace HS := sN2 HS hs; clear hs f1_ f2_ f3_))
        replace HS := sD HS
        refine ps (.p 0 (.p 1 (.p 2 (.t 3 (.p 4 (.t 5 (.e 6 (.p 7 .done)))))))) (fun w' => w'.cell? ⟨g, 2, none⟩ = some (.slice (some ⟨v, 0, none⟩) N N) ∧ w'.cell? ⟨v, 0, none⟩ = some (.int .i64 1) ∧ w'.cell? ⟨v, 1, none⟩ = some (.int .i64 y)) [] ⟨HS.out.c 0 2 (v := .slice (some ⟨v, 0, none⟩) N N) rfl rfl, ((tab_at0 (HS.out.at (i := 1) rfl)).1.trans (by rw [HE.out])), ((tab_at0 (HS.out.at (i := 1) rfl)).2.trans (by rw [HE.out]))⟩ (fun hHeld => ?_)
        repeat (first | ((with_reducible refine gate_p ?_); refine rp rfl rfl ?_) | ((with_reducible refine gate_t ?_); refine rt rfl rfl hHeld ?_))
        refine run_e rfl (fun K hK => ?_)
        refine gc Tryz.func47 (implWhole 1 _) rfl rfl ?_
        rintro e_ w1 ⟨rfl, hb⟩
        refine ⟨_, rfl, ?_⟩
        replace HS := sB HS hb
        clear hb
        refine ge hK ⟨HS.out.c 0 2 (v := .slice (some ⟨v, 0, none⟩) N N) rfl rfl, ((tab_at0 (HS.out.at (i := 1) rfl)).1.trans (by rw [HE.out])), ((tab_at0 (HS.out.at (i := 1) rfl)).2.trans (by rw [HE.out]))⟩ (fun hHeld => ?_)
        clear hK K
        repeat (first | ((with_reducible refine gate_p ?_); refine rp rfl rfl ?_) | ((with_reducible refine gate_t ?_); refine rt rfl rfl hHeld ?_))
        refine run_done ?_
        clear hHeld
        go_wp2_with (first | ((with_reducible refine gate_store (t := 26) (p := 2) rfl ?_); refine stL HS 2 0 #[(.int .i64 0), (.int .i64 0), (.slice none 0 0)] rfl rfl rfl rfl rfl ?_; clear HS; intro w1 HS))
        refine bodyPost_ret (results_cell_tmp_row rfl _ _ g_r 26 #[(.int .i64 0), (.int .i64 0), (.slice none 0 0)] (0, 0) _ rfl (HS.out.at (i := 2) rfl) Tryz.underlying26 rfl (by kernel_rfl)) rfl ?_
        exact ⟨none, 0, rfl, nilS (HS.out.sel [] (by decide))⟩
      · clear hz
        go_enter Tryz.func11, Tryz.ntmps11
        go_wp2_with (first | ((with_reducible refine gate_dst (N := 1) rfl ?_); refine bxL 26 #[.int .i64 (d : Int), .int .i64 (n : Int), .slice A l.length c] HS ?_; clear HS; intro g_p w1 hg_p HS) | ((with_reducible refine gate_dst (N := 2) rfl ?_); refine bxL 26 #[(.int .i64 0), (.int .i64 0), (.slice none 0 0)] HS ?_; clear HS; intro g_r w1 hg_r HS; have f1_ := HS.out.c 1 0 (v := .int .i64 (d : Int)) rfl rfl; have f2_ := HS.out.c 1 1 (v := .int .i64 (n : Int)) rfl rfl; have f3_ := HS.out.c 1 2 (v := .slice A l.length c) rfl rfl) | (go_at_call 38; refine (implIs d n A c l _ (HS.out.oldC HR.out) hc HB.out).mono ?_; rintro e_ w1 ⟨rfl, hb⟩; replace HS := sB HS hb; clear hb f1_ f2_ f3_; have f1_ := HS.out.c 1 0 (v := .int .i64 (d : Int)) rfl rfl; have f2_ := HS.out.c 1 1 (v := .int .i64 (n : Int)) rfl rfl; have f3_ := HS.out.c 1 2 (v := .slice A l.length c) rfl rfl) | (go_at_call 39; refine (HOP.out _ (HS.out.oldC HR.out)).mono ?_; rintro e_ w1 ⟨g, v, rfl, hs⟩; replace HS := sN2 HS hs; clear hs f1_ f2_ f3_))
        replace HS := sD HS
        refine ps (.p 0 (.p 1 (.p 2 (.t 3 (.p 4 (.t 5 (.e 6 (.p 7 .done)))))))) (fun w' => w'.cell? ⟨g, 2, none⟩ = some (.slice (some ⟨v, 0, none⟩) N N) ∧ w'.cell? ⟨v, 0, none⟩ = some (.int .i64 e.1) ∧ w'.cell? ⟨v, 1, none⟩ = some (.int .i64 e.2)) [] ⟨HS.out.c 0 2 (v := .slice (some ⟨v, 0, none⟩) N N) rfl rfl, ((tab_at0 (HS.out.at (i := 1) rfl)).1.trans (by rw [HE.out])), ((tab_at0 (HS.out.at (i := 1) rfl)).2.trans (by rw [HE.out]))⟩ (fun hHeld => ?_)
        repeat (first | ((with_reducible refine gate_p ?_); refine rp rfl rfl ?_) | ((with_reducible refine gate_t ?_); refine rt rfl rfl hHeld ?_))
        refine run_e rfl (fun K hK => ?_)
        refine gc Tryz.func47 (implWhole 1 _) rfl rfl ?_
        rintro e_ w1 ⟨rfl, hb⟩
        refine ⟨_, rfl, ?_⟩
        replace HS := sB HS hb
        clear hb
        refine ge hK ⟨HS.out.c 0 2 (v := .slice (some ⟨v, 0, none⟩) N N) rfl rfl, ((tab_at0 (HS.out.at (i := 1) rfl)).1.trans (by rw [HE.out])), ((tab_at0 (HS.out.at (i := 1) rfl)).2.trans (by rw [HE.out]))⟩ (fun hHeld => ?_)
        clear hK K
        repeat (first | ((with_reducible refine gate_p ?_); refine rp rfl rfl ?_) | ((with_reducible refine gate_t ?_); refine rt rfl rfl hHeld ?_))
        refine run_done ?_
        clear hHeld
        go_wp2_with (first | ((with_reducible refine gate_store (t := 26) (p := 2) rfl ?_); refine stL HS 2 0 #[(.int .i64 0), (.int .i64 0), (.slice none 0 0)] rfl rfl rfl rfl rfl ?_; clear HS; intro w1 HS))
        refine bodyPost_ret (results_cell_tmp_row rfl _ _ g_r 26 #[(.int .i64 0), (.int .i64 0), (.slice none 0 0)] (0, 0) _ rfl (HS.out.at (i := 2) rfl) Tryz.underlying26 rfl (by kernel_rfl)) rfl ?_
        exact ⟨none, 0, rfl, nilS (HS.out.sel [] (by decide))⟩
end Go.Proofs.YtibjkjhpfmmjoaaGreat.H



