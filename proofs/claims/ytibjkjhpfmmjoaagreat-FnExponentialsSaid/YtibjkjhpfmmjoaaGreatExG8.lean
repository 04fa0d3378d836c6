/- Plain facts and contracts of functions that the law's walk uses. Conditions: those that stand in each statement. -/
import Derived.Test.YtibjkjhpfmmjoaaGreatExG6
import Derived.Test.YtibjkjhpfmmjoaaGreatExG7
namespace Go.Proofs.YtibjkjhpfmmjoaaGreat.M
theorem mul_one' {a : Fr} (h : fr a = true) : mul a (1, 1) = some a := by
  unfold mul
  rw [Int.mul_one, Int.mul_one]
  exact frac_self h
theorem sc_id {d n : Nat} (hd : d ≤ 9) {l : Ts} (hl : isTs d n l = true) : scS l (1, 1) = some l := by
  rcases scale_rel (n := n) hd hl (a := (1, 1)) (by decide) with ⟨h1, h2⟩ | ⟨z, h1, h2, h3, h4⟩
  · exfalso
    rw [(mapT_all (n := n) hd _ false).2, Bool.false_or, List.any_eq_true] at h2
    obtain ⟨s, hs, h⟩ := h2
    rw [mul_one' (co_fr hl s)] at h
    cases h
  · rw [h1]
    congr 1
    refine ts_ext h3 hl fun w => ?_
    by_cases hw : isWd d w = true ∧ w.size ≤ n
    · rw [h4 w hw.1 hw.2, (mapT_all (n := n) hd _ false).1 w hw.1 hw.2, mul_one' (co_fr hl w)]
      rfl
    · rw [co_off h3 hw, co_off hl hw]
theorem addk_nil {d n : Nat} (hd : d ≤ 9) {l : Ts} {k : Fr} (h : isTs d n l = true) (hk : fr k = true) : addkS [] l k = scS l k := by
  unfold addkS
  cases hs : scS l k with
  | none => rfl
  | some z => exact sum_nil hd (scale_ts (n := n) hd h hk hs)
theorem addk_unit (z : Ts) : addkS z unitT (-1, 1) = lessS z := by unfold addkS; rw [mone_sc]; rfl
theorem out_bad {d n : Nat} {o : Option Ts} {c : Nat → Fr} {i : Nat} (h : outO d n o c i = none) : ∀ {j : Nat}, i ≤ j → outO d n o c j = none
  | 0, hj => by obtain rfl : i = 0 := by omega
                exact h
  | j + 1, hj => by
    by_cases e : i = j + 1
    · rw [← e]; exact h
    · rw [outO, out_bad h (j := j) (by omega)]
      cases powO d n o j <;> rfl
theorem out_pow {d n : Nat} {o : Option Ts} {c : Nat → Fr} {k : Nat} (h : powO d n o k = none) : outO d n o c (k + 1) = none := by rw [outO, h]; rfl
theorem less_ts {d n : Nat} (hd : d ≤ 9) {z y : Ts} (hz : isTs d n z = true) (h : lessS z = some y) : isTs d n y = true := sumS_ts hd hz (mone_ts d n) h
def numL (c : Nat → Fr) (m : Nat) : List Fr := (List.range m).map c
theorem numL_len (c : Nat → Fr) (m : Nat) : (numL c m).length = m := by simp [numL]
theorem numL_succ (c : Nat → Fr) (m : Nat) : numL c (m + 1) = numL c m ++ [c m] := by unfold numL; rw [List.range_succ, List.map_append]; rfl
theorem numL_at {c : Nat → Fr} {m j : Nat} (h : j < m) : (numL c m)[j]? = some (c j) := by unfold numL; rw [List.getElem?_map, List.getElem?_range h]; rfl
end Go.Proofs.YtibjkjhpfmmjoaaGreat.M
namespace Go.Proofs.YtibjkjhpfmmjoaaGreat.H
open Go.RowKit Go.Proofs.YtibjkjhpfmmjoaaGreatW.PrintWords Go.Proofs.YtibjkjhpfmmjoaaGreatW.PrintLast Go.Proofs.YtibjkjhpfmmjoaaGreatW.PrintMore Go.Proofs.YtibjkjhpfmmjoaaGreat.M
attribute [local go_sem] max2_int min2_int max_two min_two max_three min_three max_four min_four resQ
set_option linter.unusedVariables false
set_option linter.unusedSimpArgs false
set_option maxRecDepth 100000
theorem kf_at {w : World} {A : Option Addr} {n : Nat} {l : List Fr} (h : KF.C w A n l) {i : Nat} {a : Fr} (hi : l[i]? = some a) :
    ∃ ad, A = some ad ∧ w.cell? (ad.add (i * 2)) = some (.int .i64 a.1) ∧ w.cell? ⟨(ad.add (i * 2)).block, (ad.add (i * 2)).off + 1, none⟩ = some (.int .i64 a.2) := by
  obtain ⟨h1, h2⟩ := List.getElem?_eq_some_iff.1 hi
  have hln : l.length = n := h.1
  obtain ⟨ad, c, hA, hl, ⟨c0, c1, rfl, h0, h3⟩, hc⟩ := Kd.C_get h (0, 1) (i : Int) (by omega) (by omega)
  simp only [Int.toNat_natCast] at hc h0 h3
  rw [List.getD_eq_getElem?_getD, hi] at h0 h3
  have h0' : c0 = [.int .i64 a.1] := h0
  have h3' : c1 = [.int .i64 a.2] := h3
  subst h0' h3'
  exact ⟨ad, hA, hc 0 _ rfl, by rw [← add_field ad (i * 2) 1 (by omega)]; exact hc 1 _ rfl⟩
abbrev rowF (A : Option Addr) (c : Nat) (l : List Fr) : As := rw' KF rfl 37 (.slice A l.length c) l
set_option maxHeartbeats 16000000 in
theorem specSumP (d n m : Nat) (hd : d ≤ 3) (hn : n ≤ 5) (A : Option Addr) (c : Nat) (l : Ts) (An : Option Addr) (cn : Nat) (num : List Fr) (C : Nat → Fr) (w : World) (hr : KT.C w A l.length l) (hc : l.length ≤ c) (hx : isTs d n l = true) (hrn : KF.C w An num.length num) (hnum : num = numL C num.length) (hm : num.length = m) (h6 : m ≤ 6) (hC : ∀ k, fr (C k) = true) :
    Calls Tryz.prog 105 #[.agg #[.int .i64 (d : Int), .int .i64 (n : Int), .slice A l.length c], .slice An num.length cn] w (RetQ w (resQ d n (outO d n (some l) C m))) := by
  have hd9 : d ≤ 9 := by omega
  have HR := Aside0.mk hr
  have HRN := Aside0.mk (fun k (h : k < num.length) => kf_at hrn (i := k) (a := C k) (by rw [hnum]; exact numL_at h))
  have HX := Aside0.mk hx
  have HF := Aside0.mk hC
  have HTM := Aside0.mk (fun B b z W k1 k2 k3 k4 => specTimes2 d n hd hn B b z A c l W k1 k2 k3 hc k4 hx)
  have HAK := Aside0.mk (fun B b z B2 b2 z2 (k : Nat) W k1 k2 k3 k4 k5 => specAddk d n hd hn B b z B2 b2 z2 (C k) W k1 k2 k3 k4 (hC k) k5)
  have HPT := Aside0.mk (fun {k : Nat} {p : Ts} (h : powO d n (some l) k = some p) => pow_ts hd9 h)
  have HOT := Aside0.mk (fun {k : Nat} {p : Ts} (h : outO d n (some l) C k = some p) => out_ts hd9 hC h)
  have HS := Aside0.mk (Sep.refl w)
  subst hm
  clear hr hx hrn hC hnum
  obtain ⟨m, hm⟩ : ∃ m, m = num.length := ⟨_, rfl⟩
  rw [← hm] at HRN h6 ⊢
  clear hm
  obtain ⟨U, hU⟩ : ∃ U, U = unitT := ⟨_, rfl⟩
  have HU := Aside0.mk (fun W => hU ▸ specUnit d n A l.length c W)
  have HP0 := Aside0.mk (show powO d n (some l) 0 = some U by rw [hU]; rfl)
  clear hU
  go_enter Tryz.func105, Tryz.ntmps105
  go_wp2_with (first | ((with_reducible refine gate_dst (N := 2) rfl ?_); refine bxL 26 #[.int .i64 (d : Int), .int .i64 (n : Int), .slice A l.length c] HS ?_; clear HS; intro g_p w1 hg_p HS) | ((with_reducible refine gate_dst (N := 4) rfl ?_); refine bxL 26 #[(.int .i64 0), (.int .i64 0), (.slice none 0 0)] HS ?_; clear HS; intro g_r w1 hg_r HS))
  replace HS := sD HS
  apply region_told ((fun (A0_ : Option Addr → Nat → Option Addr → Nat → Nat → Nat → Act) (a' : Act) (w' : World) => ∃ (PB : Option Addr) (pb : Nat) (B : Option Addr) (b : Nat) (g_x : Nat) (g_q : Nat), a' = A0_ PB pb B b g_x g_q ∧ Aside0 (Mod w w' No [bx g_q 26 #[.int .i64 (d : Int), .int .i64 (n : Int), .slice B ([] : Ts).length b], bx g_x 26 #[.int .i64 (d : Int), .int .i64 (n : Int), .slice PB U.length pb], rowT B b [], rowT PB pb U, bx g_r 26 #[(.int .i64 0), (.int .i64 0), (.slice none 0 0)], bx g_p 26 #[.int .i64 (d : Int), .int .i64 (n : Int), .slice A l.length c]])) _)
  case h1 =>
    refine ps (.t 0 (.t 2 (.three 1 4 5 (.three 3 4 5 (.two 4 5 (.e 5 (.d 6 (.d 7 .done))) (.e 4 (.d 6 (.d 7 .done)))) (.two 3 5 (.e 5 (.d 6 (.d 7 .done))) (.e 3 (.d 6 (.d 7 .done)))) (.two 3 4 (.e 4 (.d 6 (.d 7 .done))) (.e 3 (.d 6 (.d 7 .done))))) (.two 1 5 (.two 3 5 (.e 5 (.d 6 (.d 7 .done))) (.e 3 (.d 6 (.d 7 .done)))) (.e 1 (.e 3 (.d 6 (.d 7 .done))))) (.two 1 4 (.two 3 4 (.e 4 (.d 6 (.d 7 .done))) (.e 3 (.d 6 (.d 7 .done)))) (.e 1 (.e 3 (.d 6 (.d 7 .done)))))))) (fun w' => w'.cell? ⟨g_p, 0, none⟩ = some (.int .i64 (d : Int)) ∧ w'.cell? ⟨g_p, 1, none⟩ = some (.int .i64 (n : Int)) ∧ w'.cell? ⟨g_p, 2, none⟩ = some (.slice A l.length c)) [6, 7] ⟨HS.out.c 1 0 (v := .int .i64 (d : Int)) rfl rfl, HS.out.c 1 1 (v := .int .i64 (n : Int)) rfl rfl, HS.out.c 1 2 (v := .slice A l.length c) rfl rfl⟩ (fun hHeld => ?_)
    repeat (first | ((with_reducible refine gate_p ?_); refine rp rfl rfl ?_) | ((with_reducible refine gate_t ?_); refine rt rfl rfl hHeld ?_))
    refine run_three ?_ ?_ ?_
    · skip
      refine run_e rfl (fun K hK => ?_)
      refine gc Tryz.func132 (HU.out _) rfl rfl ?_
      rintro e_ w1 ⟨PB, pb, rfl, hs⟩
      refine ⟨_, rfl, ?_⟩
      replace HS := sN1 HS hs
      refine ge hK ⟨HS.out.c 2 0 (v := .int .i64 (d : Int)) rfl rfl, HS.out.c 2 1 (v := .int .i64 (n : Int)) rfl rfl, HS.out.c 2 2 (v := .slice A l.length c) rfl rfl⟩ (fun hHeld => ?_)
      refine run_three ?_ ?_ ?_
      · skip
        refine run_e rfl (fun K hK => ?_)
        refine gc Tryz.func89 (specEmpty d n A l.length c _) rfl rfl ?_
        rintro e_ w1 ⟨B, b, rfl, hs⟩
        refine ⟨_, rfl, ?_⟩
        replace HS := sN1 HS hs
        refine ge hK ⟨HS.out.c 3 0 (v := .int .i64 (d : Int)) rfl rfl, HS.out.c 3 1 (v := .int .i64 (n : Int)) rfl rfl, HS.out.c 3 2 (v := .slice A l.length c) rfl rfl⟩ (fun hHeld => ?_)
        refine run_two ?_ ?_
        · skip
          refine run_e rfl (fun K hK => ?_)
          refine bx1 26 #[(.int .i64 0), (.int .i64 0), (.slice none 0 0)] HS ?_
          intro g_x w1 hg_x HS
          refine ge hK ⟨HS.out.c 4 0 (v := .int .i64 (d : Int)) rfl rfl, HS.out.c 4 1 (v := .int .i64 (n : Int)) rfl rfl, HS.out.c 4 2 (v := .slice A l.length c) rfl rfl⟩ (fun hHeld => ?_)
          refine run_e rfl (fun K hK => ?_)
          refine bx1 26 #[(.int .i64 0), (.int .i64 0), (.slice none 0 0)] HS ?_
          intro g_q w1 hg_q HS
          refine ge hK ⟨HS.out.c 5 0 (v := .int .i64 (d : Int)) rfl rfl, HS.out.c 5 1 (v := .int .i64 (n : Int)) rfl rfl, HS.out.c 5 2 (v := .slice A l.length c) rfl rfl⟩ (fun hHeld => ?_)
          refine run_d rfl (fun K hK => ?_)
          refine st1 HS 1 0 #[.int .i64 (d : Int), .int .i64 (n : Int), .slice PB U.length pb] rfl rfl rfl rfl rfl ?_
          intro w1 HS
          refine goD hK rfl ?_
          refine run_d rfl (fun K hK => ?_)
          refine st1 HS 0 0 #[.int .i64 (d : Int), .int .i64 (n : Int), .slice B ([] : Ts).length b] rfl rfl rfl rfl rfl ?_
          intro w1 HS
          refine goD hK rfl ?_
          refine run_done ?_
          exact ⟨PB, pb, B, b, g_x, g_q, rfl, HS⟩
        · skip
          refine run_e rfl (fun K hK => ?_)
          refine bx1 26 #[(.int .i64 0), (.int .i64 0), (.slice none 0 0)] HS ?_
          intro g_q w1 hg_q HS
          refine ge hK ⟨HS.out.c 4 0 (v := .int .i64 (d : Int)) rfl rfl, HS.out.c 4 1 (v := .int .i64 (n : Int)) rfl rfl, HS.out.c 4 2 (v := .slice A l.length c) rfl rfl⟩ (fun hHeld => ?_)
          refine run_e rfl (fun K hK => ?_)
          refine bx1 26 #[(.int .i64 0), (.int .i64 0), (.slice none 0 0)] HS ?_
          intro g_x w1 hg_x HS
          refine ge hK ⟨HS.out.c 5 0 (v := .int .i64 (d : Int)) rfl rfl, HS.out.c 5 1 (v := .int .i64 (n : Int)) rfl rfl, HS.out.c 5 2 (v := .slice A l.length c) rfl rfl⟩ (fun hHeld => ?_)
          refine run_d rfl (fun K hK => ?_)
          refine st1 HS 0 0 #[.int .i64 (d : Int), .int .i64 (n : Int), .slice PB U.length pb] rfl rfl rfl rfl rfl ?_
          intro w1 HS
          refine goD hK rfl ?_
          refine run_d rfl (fun K hK => ?_)
          refine st1 HS 1 0 #[.int .i64 (d : Int), .int .i64 (n : Int), .slice B ([] : Ts).length b] rfl rfl rfl rfl rfl ?_
          intro w1 HS
          refine goD hK rfl ?_
          refine run_done ?_
          have n_ := HS.out.sel [1, 0, 2, 3, 4, 5] (by decide)
          simp only [List.filterMap_cons, List.filterMap_nil, List.getElem?_cons_zero, List.getElem?_cons_succ] at n_
          exact ⟨PB, pb, B, b, g_x, g_q, rfl, ⟨n_⟩⟩
      · skip
        refine run_e rfl (fun K hK => ?_)
        refine bx1 26 #[(.int .i64 0), (.int .i64 0), (.slice none 0 0)] HS ?_
        intro g_x w1 hg_x HS
        refine ge hK ⟨HS.out.c 3 0 (v := .int .i64 (d : Int)) rfl rfl, HS.out.c 3 1 (v := .int .i64 (n : Int)) rfl rfl, HS.out.c 3 2 (v := .slice A l.length c) rfl rfl⟩ (fun hHeld => ?_)
        refine run_two ?_ ?_
        · skip
          refine run_e rfl (fun K hK => ?_)
          refine gc Tryz.func89 (specEmpty d n A l.length c _) rfl rfl ?_
          rintro e_ w1 ⟨B, b, rfl, hs⟩
          refine ⟨_, rfl, ?_⟩
          replace HS := sN1 HS hs
          refine ge hK ⟨HS.out.c 4 0 (v := .int .i64 (d : Int)) rfl rfl, HS.out.c 4 1 (v := .int .i64 (n : Int)) rfl rfl, HS.out.c 4 2 (v := .slice A l.length c) rfl rfl⟩ (fun hHeld => ?_)
          refine run_e rfl (fun K hK => ?_)
          refine bx1 26 #[(.int .i64 0), (.int .i64 0), (.slice none 0 0)] HS ?_
          intro g_q w1 hg_q HS
          refine ge hK ⟨HS.out.c 5 0 (v := .int .i64 (d : Int)) rfl rfl, HS.out.c 5 1 (v := .int .i64 (n : Int)) rfl rfl, HS.out.c 5 2 (v := .slice A l.length c) rfl rfl⟩ (fun hHeld => ?_)
          refine run_d rfl (fun K hK => ?_)
          refine st1 HS 2 0 #[.int .i64 (d : Int), .int .i64 (n : Int), .slice PB U.length pb] rfl rfl rfl rfl rfl ?_
          intro w1 HS
          refine goD hK rfl ?_
          refine run_d rfl (fun K hK => ?_)
          refine st1 HS 0 0 #[.int .i64 (d : Int), .int .i64 (n : Int), .slice B ([] : Ts).length b] rfl rfl rfl rfl rfl ?_
          intro w1 HS
          refine goD hK rfl ?_
          refine run_done ?_
          have n_ := HS.out.sel [0, 2, 1, 3, 4, 5] (by decide)
          simp only [List.filterMap_cons, List.filterMap_nil, List.getElem?_cons_zero, List.getElem?_cons_succ] at n_
          exact ⟨PB, pb, B, b, g_x, g_q, rfl, ⟨n_⟩⟩
        · skip
          refine run_e rfl (fun K hK => ?_)
          refine bx1 26 #[(.int .i64 0), (.int .i64 0), (.slice none 0 0)] HS ?_
          intro g_q w1 hg_q HS
          refine ge hK ⟨HS.out.c 4 0 (v := .int .i64 (d : Int)) rfl rfl, HS.out.c 4 1 (v := .int .i64 (n : Int)) rfl rfl, HS.out.c 4 2 (v := .slice A l.length c) rfl rfl⟩ (fun hHeld => ?_)
          refine run_e rfl (fun K hK => ?_)
          refine gc Tryz.func89 (specEmpty d n A l.length c _) rfl rfl ?_
          rintro e_ w1 ⟨B, b, rfl, hs⟩
          refine ⟨_, rfl, ?_⟩
          replace HS := sN1 HS hs
          refine ge hK ⟨HS.out.c 5 0 (v := .int .i64 (d : Int)) rfl rfl, HS.out.c 5 1 (v := .int .i64 (n : Int)) rfl rfl, HS.out.c 5 2 (v := .slice A l.length c) rfl rfl⟩ (fun hHeld => ?_)
          refine run_d rfl (fun K hK => ?_)
          refine st1 HS 2 0 #[.int .i64 (d : Int), .int .i64 (n : Int), .slice PB U.length pb] rfl rfl rfl rfl rfl ?_
          intro w1 HS
          refine goD hK rfl ?_
          refine run_d rfl (fun K hK => ?_)
          refine st1 HS 1 0 #[.int .i64 (d : Int), .int .i64 (n : Int), .slice B ([] : Ts).length b] rfl rfl rfl rfl rfl ?_
          intro w1 HS
          refine goD hK rfl ?_
          refine run_done ?_
          have n_ := HS.out.sel [1, 2, 0, 3, 4, 5] (by decide)
          simp only [List.filterMap_cons, List.filterMap_nil, List.getElem?_cons_zero, List.getElem?_cons_succ] at n_
          exact ⟨PB, pb, B, b, g_x, g_q, rfl, ⟨n_⟩⟩
      · skip
        refine run_e rfl (fun K hK => ?_)
        refine bx1 26 #[(.int .i64 0), (.int .i64 0), (.slice none 0 0)] HS ?_
        intro g_q w1 hg_q HS
        refine ge hK ⟨HS.out.c 3 0 (v := .int .i64 (d : Int)) rfl rfl, HS.out.c 3 1 (v := .int .i64 (n : Int)) rfl rfl, HS.out.c 3 2 (v := .slice A l.length c) rfl rfl⟩ (fun hHeld => ?_)
        refine run_two ?_ ?_
        · skip
          refine run_e rfl (fun K hK => ?_)
          refine gc Tryz.func89 (specEmpty d n A l.length c _) rfl rfl ?_
          rintro e_ w1 ⟨B, b, rfl, hs⟩
          refine ⟨_, rfl, ?_⟩
          replace HS := sN1 HS hs
          refine ge hK ⟨HS.out.c 4 0 (v := .int .i64 (d : Int)) rfl rfl, HS.out.c 4 1 (v := .int .i64 (n : Int)) rfl rfl, HS.out.c 4 2 (v := .slice A l.length c) rfl rfl⟩ (fun hHeld => ?_)
          refine run_e rfl (fun K hK => ?_)
          refine bx1 26 #[(.int .i64 0), (.int .i64 0), (.slice none 0 0)] HS ?_
          intro g_x w1 hg_x HS
          refine ge hK ⟨HS.out.c 5 0 (v := .int .i64 (d : Int)) rfl rfl, HS.out.c 5 1 (v := .int .i64 (n : Int)) rfl rfl, HS.out.c 5 2 (v := .slice A l.length c) rfl rfl⟩ (fun hHeld => ?_)
          refine run_d rfl (fun K hK => ?_)
          refine st1 HS 0 0 #[.int .i64 (d : Int), .int .i64 (n : Int), .slice PB U.length pb] rfl rfl rfl rfl rfl ?_
          intro w1 HS
          refine goD hK rfl ?_
          refine run_d rfl (fun K hK => ?_)
          refine st1 HS 2 0 #[.int .i64 (d : Int), .int .i64 (n : Int), .slice B ([] : Ts).length b] rfl rfl rfl rfl rfl ?_
          intro w1 HS
          refine goD hK rfl ?_
          refine run_done ?_
          have n_ := HS.out.sel [2, 0, 1, 3, 4, 5] (by decide)
          simp only [List.filterMap_cons, List.filterMap_nil, List.getElem?_cons_zero, List.getElem?_cons_succ] at n_
          exact ⟨PB, pb, B, b, g_x, g_q, rfl, ⟨n_⟩⟩
        · skip
          refine run_e rfl (fun K hK => ?_)
          refine bx1 26 #[(.int .i64 0), (.int .i64 0), (.slice none 0 0)] HS ?_
          intro g_x w1 hg_x HS
          refine ge hK ⟨HS.out.c 4 0 (v := .int .i64 (d : Int)) rfl rfl, HS.out.c 4 1 (v := .int .i64 (n : Int)) rfl rfl, HS.out.c 4 2 (v := .slice A l.length c) rfl rfl⟩ (fun hHeld => ?_)
          refine run_e rfl (fun K hK => ?_)
          refine gc Tryz.func89 (specEmpty d n A l.length c _) rfl rfl ?_
          rintro e_ w1 ⟨B, b, rfl, hs⟩
          refine ⟨_, rfl, ?_⟩
          replace HS := sN1 HS hs
          refine ge hK ⟨HS.out.c 5 0 (v := .int .i64 (d : Int)) rfl rfl, HS.out.c 5 1 (v := .int .i64 (n : Int)) rfl rfl, HS.out.c 5 2 (v := .slice A l.length c) rfl rfl⟩ (fun hHeld => ?_)
          refine run_d rfl (fun K hK => ?_)
          refine st1 HS 1 0 #[.int .i64 (d : Int), .int .i64 (n : Int), .slice PB U.length pb] rfl rfl rfl rfl rfl ?_
          intro w1 HS
          refine goD hK rfl ?_
          refine run_d rfl (fun K hK => ?_)
          refine st1 HS 2 0 #[.int .i64 (d : Int), .int .i64 (n : Int), .slice B ([] : Ts).length b] rfl rfl rfl rfl rfl ?_
          intro w1 HS
          refine goD hK rfl ?_
          refine run_done ?_
          have n_ := HS.out.sel [2, 1, 0, 3, 4, 5] (by decide)
          simp only [List.filterMap_cons, List.filterMap_nil, List.getElem?_cons_zero, List.getElem?_cons_succ] at n_
          exact ⟨PB, pb, B, b, g_x, g_q, rfl, ⟨n_⟩⟩
    · skip
      refine run_e rfl (fun K hK => ?_)
      refine bx1 26 #[(.int .i64 0), (.int .i64 0), (.slice none 0 0)] HS ?_
      intro g_x w1 hg_x HS
      refine ge hK ⟨HS.out.c 2 0 (v := .int .i64 (d : Int)) rfl rfl, HS.out.c 2 1 (v := .int .i64 (n : Int)) rfl rfl, HS.out.c 2 2 (v := .slice A l.length c) rfl rfl⟩ (fun hHeld => ?_)
      refine run_two ?_ ?_
      · skip
        refine run_e rfl (fun K hK => ?_)
        refine gc Tryz.func132 (HU.out _) rfl rfl ?_
        rintro e_ w1 ⟨PB, pb, rfl, hs⟩
        refine ⟨_, rfl, ?_⟩
        replace HS := sN1 HS hs
        refine ge hK ⟨HS.out.c 3 0 (v := .int .i64 (d : Int)) rfl rfl, HS.out.c 3 1 (v := .int .i64 (n : Int)) rfl rfl, HS.out.c 3 2 (v := .slice A l.length c) rfl rfl⟩ (fun hHeld => ?_)
        refine run_two ?_ ?_
        · skip
          refine run_e rfl (fun K hK => ?_)
          refine gc Tryz.func89 (specEmpty d n A l.length c _) rfl rfl ?_
          rintro e_ w1 ⟨B, b, rfl, hs⟩
          refine ⟨_, rfl, ?_⟩
          replace HS := sN1 HS hs
          refine ge hK ⟨HS.out.c 4 0 (v := .int .i64 (d : Int)) rfl rfl, HS.out.c 4 1 (v := .int .i64 (n : Int)) rfl rfl, HS.out.c 4 2 (v := .slice A l.length c) rfl rfl⟩ (fun hHeld => ?_)
          refine run_e rfl (fun K hK => ?_)
          refine bx1 26 #[(.int .i64 0), (.int .i64 0), (.slice none 0 0)] HS ?_
          intro g_q w1 hg_q HS
          refine ge hK ⟨HS.out.c 5 0 (v := .int .i64 (d : Int)) rfl rfl, HS.out.c 5 1 (v := .int .i64 (n : Int)) rfl rfl, HS.out.c 5 2 (v := .slice A l.length c) rfl rfl⟩ (fun hHeld => ?_)
          refine run_d rfl (fun K hK => ?_)
          refine st1 HS 3 0 #[.int .i64 (d : Int), .int .i64 (n : Int), .slice PB U.length pb] rfl rfl rfl rfl rfl ?_
          intro w1 HS
          refine goD hK rfl ?_
          refine run_d rfl (fun K hK => ?_)
          refine st1 HS 0 0 #[.int .i64 (d : Int), .int .i64 (n : Int), .slice B ([] : Ts).length b] rfl rfl rfl rfl rfl ?_
          intro w1 HS
          refine goD hK rfl ?_
          refine run_done ?_
          have n_ := HS.out.sel [0, 3, 1, 2, 4, 5] (by decide)
          simp only [List.filterMap_cons, List.filterMap_nil, List.getElem?_cons_zero, List.getElem?_cons_succ] at n_
          exact ⟨PB, pb, B, b, g_x, g_q, rfl, ⟨n_⟩⟩
        · skip
          refine run_e rfl (fun K hK => ?_)
          refine bx1 26 #[(.int .i64 0), (.int .i64 0), (.slice none 0 0)] HS ?_
          intro g_q w1 hg_q HS
          refine ge hK ⟨HS.out.c 4 0 (v := .int .i64 (d : Int)) rfl rfl, HS.out.c 4 1 (v := .int .i64 (n : Int)) rfl rfl, HS.out.c 4 2 (v := .slice A l.length c) rfl rfl⟩ (fun hHeld => ?_)
          refine run_e rfl (fun K hK => ?_)
          refine gc Tryz.func89 (specEmpty d n A l.length c _) rfl rfl ?_
          rintro e_ w1 ⟨B, b, rfl, hs⟩
          refine ⟨_, rfl, ?_⟩
          replace HS := sN1 HS hs
          refine ge hK ⟨HS.out.c 5 0 (v := .int .i64 (d : Int)) rfl rfl, HS.out.c 5 1 (v := .int .i64 (n : Int)) rfl rfl, HS.out.c 5 2 (v := .slice A l.length c) rfl rfl⟩ (fun hHeld => ?_)
          refine run_d rfl (fun K hK => ?_)
          refine st1 HS 3 0 #[.int .i64 (d : Int), .int .i64 (n : Int), .slice PB U.length pb] rfl rfl rfl rfl rfl ?_
          intro w1 HS
          refine goD hK rfl ?_
          refine run_d rfl (fun K hK => ?_)
          refine st1 HS 1 0 #[.int .i64 (d : Int), .int .i64 (n : Int), .slice B ([] : Ts).length b] rfl rfl rfl rfl rfl ?_
          intro w1 HS
          refine goD hK rfl ?_
          refine run_done ?_
          have n_ := HS.out.sel [1, 3, 0, 2, 4, 5] (by decide)
          simp only [List.filterMap_cons, List.filterMap_nil, List.getElem?_cons_zero, List.getElem?_cons_succ] at n_
          exact ⟨PB, pb, B, b, g_x, g_q, rfl, ⟨n_⟩⟩
      · skip
        refine run_e rfl (fun K hK => ?_)
        refine bx1 26 #[(.int .i64 0), (.int .i64 0), (.slice none 0 0)] HS ?_
        intro g_q w1 hg_q HS
        refine ge hK ⟨HS.out.c 3 0 (v := .int .i64 (d : Int)) rfl rfl, HS.out.c 3 1 (v := .int .i64 (n : Int)) rfl rfl, HS.out.c 3 2 (v := .slice A l.length c) rfl rfl⟩ (fun hHeld => ?_)
        refine run_e rfl (fun K hK => ?_)
        refine gc Tryz.func132 (HU.out _) rfl rfl ?_
        rintro e_ w1 ⟨PB, pb, rfl, hs⟩
        refine ⟨_, rfl, ?_⟩
        replace HS := sN1 HS hs
        refine ge hK ⟨HS.out.c 4 0 (v := .int .i64 (d : Int)) rfl rfl, HS.out.c 4 1 (v := .int .i64 (n : Int)) rfl rfl, HS.out.c 4 2 (v := .slice A l.length c) rfl rfl⟩ (fun hHeld => ?_)
        refine run_e rfl (fun K hK => ?_)
        refine gc Tryz.func89 (specEmpty d n A l.length c _) rfl rfl ?_
        rintro e_ w1 ⟨B, b, rfl, hs⟩
        refine ⟨_, rfl, ?_⟩
        replace HS := sN1 HS hs
        refine ge hK ⟨HS.out.c 5 0 (v := .int .i64 (d : Int)) rfl rfl, HS.out.c 5 1 (v := .int .i64 (n : Int)) rfl rfl, HS.out.c 5 2 (v := .slice A l.length c) rfl rfl⟩ (fun hHeld => ?_)
        refine run_d rfl (fun K hK => ?_)
        refine st1 HS 3 0 #[.int .i64 (d : Int), .int .i64 (n : Int), .slice PB U.length pb] rfl rfl rfl rfl rfl ?_
        intro w1 HS
        refine goD hK rfl ?_
        refine run_d rfl (fun K hK => ?_)
        refine st1 HS 2 0 #[.int .i64 (d : Int), .int .i64 (n : Int), .slice B ([] : Ts).length b] rfl rfl rfl rfl rfl ?_
        intro w1 HS
        refine goD hK rfl ?_
        refine run_done ?_
        have n_ := HS.out.sel [2, 3, 0, 1, 4, 5] (by decide)
        simp only [List.filterMap_cons, List.filterMap_nil, List.getElem?_cons_zero, List.getElem?_cons_succ] at n_
        exact ⟨PB, pb, B, b, g_x, g_q, rfl, ⟨n_⟩⟩
    · skip
      refine run_e rfl (fun K hK => ?_)
      refine bx1 26 #[(.int .i64 0), (.int .i64 0), (.slice none 0 0)] HS ?_
      intro g_q w1 hg_q HS
      refine ge hK ⟨HS.out.c 2 0 (v := .int .i64 (d : Int)) rfl rfl, HS.out.c 2 1 (v := .int .i64 (n : Int)) rfl rfl, HS.out.c 2 2 (v := .slice A l.length c) rfl rfl⟩ (fun hHeld => ?_)
      refine run_two ?_ ?_
      · skip
        refine run_e rfl (fun K hK => ?_)
        refine gc Tryz.func132 (HU.out _) rfl rfl ?_
        rintro e_ w1 ⟨PB, pb, rfl, hs⟩
        refine ⟨_, rfl, ?_⟩
        replace HS := sN1 HS hs
        refine ge hK ⟨HS.out.c 3 0 (v := .int .i64 (d : Int)) rfl rfl, HS.out.c 3 1 (v := .int .i64 (n : Int)) rfl rfl, HS.out.c 3 2 (v := .slice A l.length c) rfl rfl⟩ (fun hHeld => ?_)
        refine run_two ?_ ?_
        · skip
          refine run_e rfl (fun K hK => ?_)
          refine gc Tryz.func89 (specEmpty d n A l.length c _) rfl rfl ?_
          rintro e_ w1 ⟨B, b, rfl, hs⟩
          refine ⟨_, rfl, ?_⟩
          replace HS := sN1 HS hs
          refine ge hK ⟨HS.out.c 4 0 (v := .int .i64 (d : Int)) rfl rfl, HS.out.c 4 1 (v := .int .i64 (n : Int)) rfl rfl, HS.out.c 4 2 (v := .slice A l.length c) rfl rfl⟩ (fun hHeld => ?_)
          refine run_e rfl (fun K hK => ?_)
          refine bx1 26 #[(.int .i64 0), (.int .i64 0), (.slice none 0 0)] HS ?_
          intro g_x w1 hg_x HS
          refine ge hK ⟨HS.out.c 5 0 (v := .int .i64 (d : Int)) rfl rfl, HS.out.c 5 1 (v := .int .i64 (n : Int)) rfl rfl, HS.out.c 5 2 (v := .slice A l.length c) rfl rfl⟩ (fun hHeld => ?_)
          refine run_d rfl (fun K hK => ?_)
          refine st1 HS 0 0 #[.int .i64 (d : Int), .int .i64 (n : Int), .slice PB U.length pb] rfl rfl rfl rfl rfl ?_
          intro w1 HS
          refine goD hK rfl ?_
          refine run_d rfl (fun K hK => ?_)
          refine st1 HS 3 0 #[.int .i64 (d : Int), .int .i64 (n : Int), .slice B ([] : Ts).length b] rfl rfl rfl rfl rfl ?_
          intro w1 HS
          refine goD hK rfl ?_
          refine run_done ?_
          have n_ := HS.out.sel [3, 0, 1, 2, 4, 5] (by decide)
          simp only [List.filterMap_cons, List.filterMap_nil, List.getElem?_cons_zero, List.getElem?_cons_succ] at n_
          exact ⟨PB, pb, B, b, g_x, g_q, rfl, ⟨n_⟩⟩
        · skip
          refine run_e rfl (fun K hK => ?_)
          refine bx1 26 #[(.int .i64 0), (.int .i64 0), (.slice none 0 0)] HS ?_
          intro g_x w1 hg_x HS
          refine ge hK ⟨HS.out.c 4 0 (v := .int .i64 (d : Int)) rfl rfl, HS.out.c 4 1 (v := .int .i64 (n : Int)) rfl rfl, HS.out.c 4 2 (v := .slice A l.length c) rfl rfl⟩ (fun hHeld => ?_)
          refine run_e rfl (fun K hK => ?_)
          refine gc Tryz.func89 (specEmpty d n A l.length c _) rfl rfl ?_
          rintro e_ w1 ⟨B, b, rfl, hs⟩
          refine ⟨_, rfl, ?_⟩
          replace HS := sN1 HS hs
          refine ge hK ⟨HS.out.c 5 0 (v := .int .i64 (d : Int)) rfl rfl, HS.out.c 5 1 (v := .int .i64 (n : Int)) rfl rfl, HS.out.c 5 2 (v := .slice A l.length c) rfl rfl⟩ (fun hHeld => ?_)
          refine run_d rfl (fun K hK => ?_)
          refine st1 HS 1 0 #[.int .i64 (d : Int), .int .i64 (n : Int), .slice PB U.length pb] rfl rfl rfl rfl rfl ?_
          intro w1 HS
          refine goD hK rfl ?_
          refine run_d rfl (fun K hK => ?_)
          refine st1 HS 3 0 #[.int .i64 (d : Int), .int .i64 (n : Int), .slice B ([] : Ts).length b] rfl rfl rfl rfl rfl ?_
          intro w1 HS
          refine goD hK rfl ?_
          refine run_done ?_
          have n_ := HS.out.sel [3, 1, 0, 2, 4, 5] (by decide)
          simp only [List.filterMap_cons, List.filterMap_nil, List.getElem?_cons_zero, List.getElem?_cons_succ] at n_
          exact ⟨PB, pb, B, b, g_x, g_q, rfl, ⟨n_⟩⟩
      · skip
        refine run_e rfl (fun K hK => ?_)
        refine bx1 26 #[(.int .i64 0), (.int .i64 0), (.slice none 0 0)] HS ?_
        intro g_x w1 hg_x HS
        refine ge hK ⟨HS.out.c 3 0 (v := .int .i64 (d : Int)) rfl rfl, HS.out.c 3 1 (v := .int .i64 (n : Int)) rfl rfl, HS.out.c 3 2 (v := .slice A l.length c) rfl rfl⟩ (fun hHeld => ?_)
        refine run_e rfl (fun K hK => ?_)
        refine gc Tryz.func132 (HU.out _) rfl rfl ?_
        rintro e_ w1 ⟨PB, pb, rfl, hs⟩
        refine ⟨_, rfl, ?_⟩
        replace HS := sN1 HS hs
        refine ge hK ⟨HS.out.c 4 0 (v := .int .i64 (d : Int)) rfl rfl, HS.out.c 4 1 (v := .int .i64 (n : Int)) rfl rfl, HS.out.c 4 2 (v := .slice A l.length c) rfl rfl⟩ (fun hHeld => ?_)
        refine run_e rfl (fun K hK => ?_)
        refine gc Tryz.func89 (specEmpty d n A l.length c _) rfl rfl ?_
        rintro e_ w1 ⟨B, b, rfl, hs⟩
        refine ⟨_, rfl, ?_⟩
        replace HS := sN1 HS hs
        refine ge hK ⟨HS.out.c 5 0 (v := .int .i64 (d : Int)) rfl rfl, HS.out.c 5 1 (v := .int .i64 (n : Int)) rfl rfl, HS.out.c 5 2 (v := .slice A l.length c) rfl rfl⟩ (fun hHeld => ?_)
        refine run_d rfl (fun K hK => ?_)
        refine st1 HS 2 0 #[.int .i64 (d : Int), .int .i64 (n : Int), .slice PB U.length pb] rfl rfl rfl rfl rfl ?_
        intro w1 HS
        refine goD hK rfl ?_
        refine run_d rfl (fun K hK => ?_)
        refine st1 HS 3 0 #[.int .i64 (d : Int), .int .i64 (n : Int), .slice B ([] : Ts).length b] rfl rfl rfl rfl rfl ?_
        intro w1 HS
        refine goD hK rfl ?_
        refine run_done ?_
        have n_ := HS.out.sel [3, 2, 0, 1, 4, 5] (by decide)
        simp only [List.filterMap_cons, List.filterMap_nil, List.getElem?_cons_zero, List.getElem?_cons_succ] at n_
        exact ⟨PB, pb, B, b, g_x, g_q, rfl, ⟨n_⟩⟩
  clear HS
  rintro a_ w1 ⟨PB, pb, B, b, g_x, g_q, rfl, HS⟩
  go_wp2
  go_loopw [8] (fun v w' => ∃ (k : Nat) (PB : Option Addr) (pb : Nat) (pz : Ts) (B : Option Addr) (b : Nat) (z : Ts), k ≤ m ∧ v = .int .i64 (k : Int) ∧ Aside0 (powO d n (some l) (k - 1) = some pz) ∧ Aside0 (outO d n (some l) C k = some z) ∧ Aside0 (Mod w w' No [bx g_q 26 #[.int .i64 (d : Int), .int .i64 (n : Int), .slice B z.length b], bx g_x 26 #[.int .i64 (d : Int), .int .i64 (n : Int), .slice PB pz.length pb], rowT B b z, rowT PB pb pz, bx g_r 26 #[(.int .i64 0), (.int .i64 0), (.slice none 0 0)], bx g_p 26 #[.int .i64 (d : Int), .int .i64 (n : Int), .slice A l.length c]])) (fun v _ => m - (intOf v).toNat)
  case atStart => exact ⟨0, PB, pb, U, B, b, [], by omega, rfl, HP0, ⟨rfl⟩, HS⟩
  case round =>
    clear HS
    obtain ⟨k, PB, pb, pz, B, b, z, hk, rfl, HPW, HZ, HS⟩ := hrel
    by_cases hlt : k < m
    · obtain ⟨ad, ea, h1_, h2_⟩ := HRN.out k hlt
      cases ea
      have H1 := Aside0.mk h1_
      have H2 := Aside0.mk h2_
      clear h1_ h2_
      by_cases h0 : 0 < k
      · obtain ⟨g, hg⟩ : ∃ g, g = mulS d n pz l := ⟨_, rfl⟩
        have HP := Aside0.mk (fun W k1 k2 k3 => hg ▸ HTM.out PB pb pz W k1 k2 k3 (HPT.out HPW.out))
        have HPK := Aside0.mk (show powO d n (some l) k = g by obtain ⟨j, rfl⟩ : ∃ j, k = j + 1 := ⟨k - 1, by omega⟩; rw [Nat.add_sub_cancel] at HPW; rw [powO, HPW.out, hg]; rfl)
        clear hg HPW
        cases g with
        | none =>
          have f1_ := HS.out.c 1 0 (v := .int .i64 (d : Int)) rfl rfl
          have f2_ := HS.out.c 1 1 (v := .int .i64 (n : Int)) rfl rfl
          have f3_ := HS.out.c 1 2 (v := .slice PB pz.length pb) rfl rfl
          have f4_ := HS.out.c 5 0 (v := .int .i64 (d : Int)) rfl rfl
          have f5_ := HS.out.c 5 1 (v := .int .i64 (n : Int)) rfl rfl
          have f6_ := HS.out.c 5 2 (v := .slice A l.length c) rfl rfl
          go_wp2_with (first | (go_at_call 133; refine (HP.out _ (HS.out.reads 3 rfl) (HS.out.cap 3 rfl) (HS.out.oldC HR.out)).mono ?_; rintro e_ w1 ⟨B2, b2, rfl, hs⟩; replace HS := sN1 HS hs; clear hs f1_ f2_ f3_ f4_ f5_ f6_) | ((with_reducible refine gate_dst (N := 9) rfl ?_); refine bxL 26 #[(.int .i64 0), (.int .i64 0), (.slice none 0 0)] HS ?_; clear HS; intro g_y w1 hg_y HS) | ((with_reducible refine gate_store (t := 26) (p := 9) rfl ?_); refine stL HS 0 0 #[.int .i64 0, .int .i64 0, .slice B2 ([] : Ts).length b2] rfl rfl rfl rfl rfl ?_; clear HS; intro w1 HS) | ((with_reducible refine gate_store (t := 26) (p := 4) rfl ?_); refine stL HS 6 0 #[(.int .i64 0), (.int .i64 0), (.slice none 0 0)] rfl rfl rfl rfl rfl ?_; clear HS; intro w1 HS))
          refine bodyPost_ret (results_cell_tmp_row rfl _ _ g_r 26 #[(.int .i64 0), (.int .i64 0), (.slice none 0 0)] (0, 0) _ rfl (HS.out.at (i := 6) rfl) Tryz.underlying26 rfl (by kernel_rfl)) rfl ?_
          rw [out_bad (out_pow HPK.out) (by omega)]
          exact ⟨none, 0, rfl, nilS (HS.out.sel [] (by decide))⟩
        | some pz2 =>
          by_cases hz : (C k).1 = 0
          · have hzb : ((C k).1 == 0) = true := by rw [hz]; rfl
            have HN := Aside0.mk ((outO_skip HPK.out hz).trans HZ.out)
            clear hz
            have f1_ := HS.out.c 1 0 (v := .int .i64 (d : Int)) rfl rfl
            have f2_ := HS.out.c 1 1 (v := .int .i64 (n : Int)) rfl rfl
            have f3_ := HS.out.c 1 2 (v := .slice PB pz.length pb) rfl rfl
            have f4_ := HS.out.c 5 0 (v := .int .i64 (d : Int)) rfl rfl
            have f5_ := HS.out.c 5 1 (v := .int .i64 (n : Int)) rfl rfl
            have f6_ := HS.out.c 5 2 (v := .slice A l.length c) rfl rfl
            go_wp2_with (first | (go_at_call 133; refine (HP.out _ (HS.out.reads 3 rfl) (HS.out.cap 3 rfl) (HS.out.oldC HR.out)).mono ?_; rintro e_ w1 ⟨PB2, pb2, rfl, hs⟩; replace HS := sN1 HS hs; clear hs f1_ f2_ f3_ f4_ f5_ f6_) | ((with_reducible refine gate_dst (N := 9) rfl ?_); refine bxL 26 #[(.int .i64 0), (.int .i64 0), (.slice none 0 0)] HS ?_; clear HS; intro g_y w1 hg_y HS) | ((with_reducible refine gate_store (t := 26) (p := 9) rfl ?_); refine stL HS 0 0 #[.int .i64 (d : Int), .int .i64 (n : Int), .slice PB2 pz2.length pb2] rfl rfl rfl rfl rfl ?_; clear HS; intro w1 HS; have f1_ := HS.out.c 0 0 (v := .int .i64 (d : Int)) rfl rfl; have f2_ := HS.out.c 0 1 (v := .int .i64 (n : Int)) rfl rfl; have f3_ := HS.out.c 0 2 (v := .slice PB2 pz2.length pb2) rfl rfl) | ((with_reducible refine gate_store (t := 26) (p := 6) rfl ?_); refine stL HS 3 0 #[.int .i64 (d : Int), .int .i64 (n : Int), .slice PB2 pz2.length pb2] rfl rfl rfl rfl rfl ?_; clear HS f1_ f2_ f3_; intro w1 HS; have f1_ := HS.out.old H1.out; have f2_ := HS.out.old H2.out) | (go_at_call 43; refine (specZero _ _ _).mono ?_; rintro e_ w1 ⟨rfl, hb⟩; replace HS := sB HS hb; clear hb f1_ f2_))
            go_roundw
            case rel => exact ⟨k + 1, PB2, pb2, pz2, B, b, z, by omega, by go_num, HPK, HN, sX HS [2, 3, 4, 1, 6, 7]⟩
            case measure => simp [intOf]; omega
          · have hzb : ((C k).1 == 0) = false := by simpa using hz
            obtain ⟨g, hg⟩ : ∃ g, g = addkS z pz2 (C k) := ⟨_, rfl⟩
            have HP2 := Aside0.mk (fun PB2 pb2 W k1 k2 => hg ▸ HAK.out B b z PB2 pb2 pz2 k W k1 k2 (HOT.out HZ.out) (HPT.out HPK.out) hz)
            have HN := Aside0.mk ((outO_step hz).trans (show two sumS (outO d n (some l) C k) ((powO d n (some l) k).bind fun p => scS p (C k)) = g by rw [HZ.out, HPK.out, hg]; rfl))
            clear hz hg
            cases g with
            | none =>
              have f1_ := HS.out.c 1 0 (v := .int .i64 (d : Int)) rfl rfl
              have f2_ := HS.out.c 1 1 (v := .int .i64 (n : Int)) rfl rfl
              have f3_ := HS.out.c 1 2 (v := .slice PB pz.length pb) rfl rfl
              have f4_ := HS.out.c 5 0 (v := .int .i64 (d : Int)) rfl rfl
              have f5_ := HS.out.c 5 1 (v := .int .i64 (n : Int)) rfl rfl
              have f6_ := HS.out.c 5 2 (v := .slice A l.length c) rfl rfl
              go_wp2_with (first | (go_at_call 133; refine (HP.out _ (HS.out.reads 3 rfl) (HS.out.cap 3 rfl) (HS.out.oldC HR.out)).mono ?_; rintro e_ w1 ⟨PB2, pb2, rfl, hs⟩; replace HS := sN1 HS hs; clear hs f1_ f2_ f3_ f4_ f5_ f6_) | ((with_reducible refine gate_dst (N := 9) rfl ?_); refine bxL 26 #[(.int .i64 0), (.int .i64 0), (.slice none 0 0)] HS ?_; clear HS; intro g_y w1 hg_y HS) | ((with_reducible refine gate_store (t := 26) (p := 9) rfl ?_); refine stL HS 0 0 #[.int .i64 (d : Int), .int .i64 (n : Int), .slice PB2 pz2.length pb2] rfl rfl rfl rfl rfl ?_; clear HS; intro w1 HS; have f1_ := HS.out.c 0 0 (v := .int .i64 (d : Int)) rfl rfl; have f2_ := HS.out.c 0 1 (v := .int .i64 (n : Int)) rfl rfl; have f3_ := HS.out.c 0 2 (v := .slice PB2 pz2.length pb2) rfl rfl) | ((with_reducible refine gate_store (t := 26) (p := 6) rfl ?_); refine stL HS 3 0 #[.int .i64 (d : Int), .int .i64 (n : Int), .slice PB2 pz2.length pb2] rfl rfl rfl rfl rfl ?_; clear HS f1_ f2_ f3_; intro w1 HS; have f1_ := HS.out.old H1.out; have f2_ := HS.out.old H2.out) | (go_at_call 43; refine (specZero _ _ _).mono ?_; rintro e_ w1 ⟨rfl, hb⟩; replace HS := sB HS hb; clear hb f1_ f2_))
              replace HS := sD HS
              apply region_told ((fun (A0_ : Option Addr → Nat → Nat → Act) (a' : Act) (w' : World) => ∃ (B3 : Option Addr) (b3 : Nat) (g_y2 : Nat), a' = A0_ B3 b3 g_y2 ∧ Aside0 (Mod w w' No [bx g_y2 26 #[.int .i64 0, .int .i64 0, .slice B3 ([] : Ts).length b3], rowT B3 b3 [], bx g_y 26 #[.int .i64 (d : Int), .int .i64 (n : Int), .slice PB2 pz2.length pb2], rowT PB2 pb2 pz2, bx g_q 26 #[.int .i64 (d : Int), .int .i64 (n : Int), .slice B z.length b], bx g_x 26 #[.int .i64 (d : Int), .int .i64 (n : Int), .slice PB2 pz2.length pb2], rowT B b z, rowT PB pb pz, bx g_r 26 #[(.int .i64 0), (.int .i64 0), (.slice none 0 0)], bx g_p 26 #[.int .i64 (d : Int), .int .i64 (n : Int), .slice A l.length c]])) _)
              case h1 =>
                refine ps (.p 2 (.p 3 (.p 4 (.t 0 (.t 1 (.t 5 (.two 6 10 (.p 7 (.p 8 (.p 9 (.e 10 (.d 11 (.p 12 .done)))))) (.e 6 (.p 7 (.p 8 (.p 9 (.d 11 (.p 12 .done))))))))))))) (fun w' => w'.cell? ⟨g_q, 0, none⟩ = some (.int .i64 (d : Int)) ∧ w'.cell? ⟨g_q, 1, none⟩ = some (.int .i64 (n : Int)) ∧ w'.cell? ⟨g_q, 2, none⟩ = some (.slice B z.length b) ∧ w'.cell? ⟨g_x, 0, none⟩ = some (.int .i64 (d : Int)) ∧ w'.cell? ⟨g_x, 1, none⟩ = some (.int .i64 (n : Int)) ∧ w'.cell? ⟨g_x, 2, none⟩ = some (.slice PB2 pz2.length pb2) ∧ w'.cell? (ad.add (k * 2)) = some (.int .i64 (C k).1) ∧ w'.cell? ⟨(ad.add (k * 2)).block, (ad.add (k * 2)).off + 1, none⟩ = some (.int .i64 (C k).2)) [11] ⟨HS.out.c 2 0 (v := .int .i64 (d : Int)) rfl rfl, HS.out.c 2 1 (v := .int .i64 (n : Int)) rfl rfl, HS.out.c 2 2 (v := .slice B z.length b) rfl rfl, HS.out.c 3 0 (v := .int .i64 (d : Int)) rfl rfl, HS.out.c 3 1 (v := .int .i64 (n : Int)) rfl rfl, HS.out.c 3 2 (v := .slice PB2 pz2.length pb2) rfl rfl, HS.out.old H1.out, HS.out.old H2.out⟩ (fun hHeld => ?_)
                repeat (first | ((with_reducible refine gate_p ?_); refine rp rfl rfl ?_) | ((with_reducible refine gate_t ?_); refine rt rfl rfl hHeld ?_))
                refine run_two ?_ ?_
                · skip
                  refine run_e rfl (fun K hK => ?_)
                  refine gc Tryz.func114 (HP2.out PB2 pb2 _ (HS.out.reads 4 rfl) (HS.out.reads 1 rfl)) rfl rfl ?_
                  rintro e_ w1 ⟨B3, b3, rfl, hs⟩
                  refine ⟨_, rfl, ?_⟩
                  replace HS := sN1 HS hs
                  refine ge hK ⟨HS.out.c 3 0 (v := .int .i64 (d : Int)) rfl rfl, HS.out.c 3 1 (v := .int .i64 (n : Int)) rfl rfl, HS.out.c 3 2 (v := .slice B z.length b) rfl rfl, HS.out.c 4 0 (v := .int .i64 (d : Int)) rfl rfl, HS.out.c 4 1 (v := .int .i64 (n : Int)) rfl rfl, HS.out.c 4 2 (v := .slice PB2 pz2.length pb2) rfl rfl, HS.out.old H1.out, HS.out.old H2.out⟩ (fun hHeld => ?_)
                  repeat (first | ((with_reducible refine gate_p ?_); refine rp rfl rfl ?_) | ((with_reducible refine gate_t ?_); refine rt rfl rfl hHeld ?_))
                  refine run_e rfl (fun K hK => ?_)
                  refine bx1 26 #[(.int .i64 0), (.int .i64 0), (.slice none 0 0)] HS ?_
                  intro g_y2 w1 hg_y2 HS
                  refine ge hK ⟨HS.out.c 4 0 (v := .int .i64 (d : Int)) rfl rfl, HS.out.c 4 1 (v := .int .i64 (n : Int)) rfl rfl, HS.out.c 4 2 (v := .slice B z.length b) rfl rfl, HS.out.c 5 0 (v := .int .i64 (d : Int)) rfl rfl, HS.out.c 5 1 (v := .int .i64 (n : Int)) rfl rfl, HS.out.c 5 2 (v := .slice PB2 pz2.length pb2) rfl rfl, HS.out.old H1.out, HS.out.old H2.out⟩ (fun hHeld => ?_)
                  refine run_d rfl (fun K hK => ?_)
                  refine st1 HS 0 0 #[.int .i64 0, .int .i64 0, .slice B3 ([] : Ts).length b3] rfl rfl rfl rfl rfl ?_
                  intro w1 HS
                  refine goD hK rfl ?_
                  repeat (first | ((with_reducible refine gate_p ?_); refine rp rfl rfl ?_) | ((with_reducible refine gate_t ?_); refine rt rfl rfl hHeld ?_))
                  refine run_done ?_
                  exact ⟨B3, b3, g_y2, rfl, HS⟩
                · skip
                  refine run_e rfl (fun K hK => ?_)
                  refine bx1 26 #[(.int .i64 0), (.int .i64 0), (.slice none 0 0)] HS ?_
                  intro g_y2 w1 hg_y2 HS
                  refine ge hK ⟨HS.out.c 3 0 (v := .int .i64 (d : Int)) rfl rfl, HS.out.c 3 1 (v := .int .i64 (n : Int)) rfl rfl, HS.out.c 3 2 (v := .slice B z.length b) rfl rfl, HS.out.c 4 0 (v := .int .i64 (d : Int)) rfl rfl, HS.out.c 4 1 (v := .int .i64 (n : Int)) rfl rfl, HS.out.c 4 2 (v := .slice PB2 pz2.length pb2) rfl rfl, HS.out.old H1.out, HS.out.old H2.out⟩ (fun hHeld => ?_)
                  refine run_e rfl (fun K hK => ?_)
                  refine gc Tryz.func114 (HP2.out PB2 pb2 _ (HS.out.reads 5 rfl) (HS.out.reads 2 rfl)) rfl rfl ?_
                  rintro e_ w1 ⟨B3, b3, rfl, hs⟩
                  refine ⟨_, rfl, ?_⟩
                  replace HS := sN1 HS hs
                  refine ge hK ⟨HS.out.c 4 0 (v := .int .i64 (d : Int)) rfl rfl, HS.out.c 4 1 (v := .int .i64 (n : Int)) rfl rfl, HS.out.c 4 2 (v := .slice B z.length b) rfl rfl, HS.out.c 5 0 (v := .int .i64 (d : Int)) rfl rfl, HS.out.c 5 1 (v := .int .i64 (n : Int)) rfl rfl, HS.out.c 5 2 (v := .slice PB2 pz2.length pb2) rfl rfl, HS.out.old H1.out, HS.out.old H2.out⟩ (fun hHeld => ?_)
                  repeat (first | ((with_reducible refine gate_p ?_); refine rp rfl rfl ?_) | ((with_reducible refine gate_t ?_); refine rt rfl rfl hHeld ?_))
                  refine run_d rfl (fun K hK => ?_)
                  refine st1 HS 1 0 #[.int .i64 0, .int .i64 0, .slice B3 ([] : Ts).length b3] rfl rfl rfl rfl rfl ?_
                  intro w1 HS
                  refine goD hK rfl ?_
                  repeat (first | ((with_reducible refine gate_p ?_); refine rp rfl rfl ?_) | ((with_reducible refine gate_t ?_); refine rt rfl rfl hHeld ?_))
                  refine run_done ?_
                  have n_ := HS.out.sel [1, 0, 2, 3, 4, 5, 6, 7, 8, 9] (by decide)
                  simp only [List.filterMap_cons, List.filterMap_nil, List.getElem?_cons_zero, List.getElem?_cons_succ] at n_
                  exact ⟨B3, b3, g_y2, rfl, ⟨n_⟩⟩
              clear HS
              rintro a_ w1 ⟨B3, b3, g_y2, rfl, HS⟩
              go_wp2_with (first | ((with_reducible refine gate_store (t := 26) (p := 4) rfl ?_); refine stL HS 8 0 #[(.int .i64 0), (.int .i64 0), (.slice none 0 0)] rfl rfl rfl rfl rfl ?_; clear HS; intro w1 HS))
              refine bodyPost_ret (results_cell_tmp_row rfl _ _ g_r 26 #[(.int .i64 0), (.int .i64 0), (.slice none 0 0)] (0, 0) _ rfl (HS.out.at (i := 8) rfl) Tryz.underlying26 rfl (by kernel_rfl)) rfl ?_
              rw [out_bad HN.out (by omega)]
              exact ⟨none, 0, rfl, nilS (HS.out.sel [] (by decide))⟩
            | some z2 =>
              have f1_ := HS.out.c 1 0 (v := .int .i64 (d : Int)) rfl rfl
              have f2_ := HS.out.c 1 1 (v := .int .i64 (n : Int)) rfl rfl
              have f3_ := HS.out.c 1 2 (v := .slice PB pz.length pb) rfl rfl
              have f4_ := HS.out.c 5 0 (v := .int .i64 (d : Int)) rfl rfl
              have f5_ := HS.out.c 5 1 (v := .int .i64 (n : Int)) rfl rfl
              have f6_ := HS.out.c 5 2 (v := .slice A l.length c) rfl rfl
              go_wp2_with (first | (go_at_call 133; refine (HP.out _ (HS.out.reads 3 rfl) (HS.out.cap 3 rfl) (HS.out.oldC HR.out)).mono ?_; rintro e_ w1 ⟨PB2, pb2, rfl, hs⟩; replace HS := sN1 HS hs; clear hs f1_ f2_ f3_ f4_ f5_ f6_) | ((with_reducible refine gate_dst (N := 9) rfl ?_); refine bxL 26 #[(.int .i64 0), (.int .i64 0), (.slice none 0 0)] HS ?_; clear HS; intro g_y w1 hg_y HS) | ((with_reducible refine gate_store (t := 26) (p := 9) rfl ?_); refine stL HS 0 0 #[.int .i64 (d : Int), .int .i64 (n : Int), .slice PB2 pz2.length pb2] rfl rfl rfl rfl rfl ?_; clear HS; intro w1 HS; have f1_ := HS.out.c 0 0 (v := .int .i64 (d : Int)) rfl rfl; have f2_ := HS.out.c 0 1 (v := .int .i64 (n : Int)) rfl rfl; have f3_ := HS.out.c 0 2 (v := .slice PB2 pz2.length pb2) rfl rfl) | ((with_reducible refine gate_store (t := 26) (p := 6) rfl ?_); refine stL HS 3 0 #[.int .i64 (d : Int), .int .i64 (n : Int), .slice PB2 pz2.length pb2] rfl rfl rfl rfl rfl ?_; clear HS f1_ f2_ f3_; intro w1 HS; have f1_ := HS.out.old H1.out; have f2_ := HS.out.old H2.out) | (go_at_call 43; refine (specZero _ _ _).mono ?_; rintro e_ w1 ⟨rfl, hb⟩; replace HS := sB HS hb; clear hb f1_ f2_))
              replace HS := sD HS
              apply region_told ((fun (A0_ : Option Addr → Nat → Nat → Act) (a' : Act) (w' : World) => ∃ (B3 : Option Addr) (b3 : Nat) (g_y2 : Nat), a' = A0_ B3 b3 g_y2 ∧ Aside0 (Mod w w' No [bx g_y2 26 #[.int .i64 (d : Int), .int .i64 (n : Int), .slice B3 z2.length b3], rowT B3 b3 z2, bx g_y 26 #[.int .i64 (d : Int), .int .i64 (n : Int), .slice PB2 pz2.length pb2], rowT PB2 pb2 pz2, bx g_q 26 #[.int .i64 (d : Int), .int .i64 (n : Int), .slice B z.length b], bx g_x 26 #[.int .i64 (d : Int), .int .i64 (n : Int), .slice PB2 pz2.length pb2], rowT B b z, rowT PB pb pz, bx g_r 26 #[(.int .i64 0), (.int .i64 0), (.slice none 0 0)], bx g_p 26 #[.int .i64 (d : Int), .int .i64 (n : Int), .slice A l.length c]])) _)
              case h1 =>
                refine ps (.p 2 (.p 3 (.p 4 (.t 0 (.t 1 (.t 5 (.two 6 10 (.p 7 (.p 8 (.p 9 (.e 10 (.d 11 (.p 12 .done)))))) (.e 6 (.p 7 (.p 8 (.p 9 (.d 11 (.p 12 .done))))))))))))) (fun w' => w'.cell? ⟨g_q, 0, none⟩ = some (.int .i64 (d : Int)) ∧ w'.cell? ⟨g_q, 1, none⟩ = some (.int .i64 (n : Int)) ∧ w'.cell? ⟨g_q, 2, none⟩ = some (.slice B z.length b) ∧ w'.cell? ⟨g_x, 0, none⟩ = some (.int .i64 (d : Int)) ∧ w'.cell? ⟨g_x, 1, none⟩ = some (.int .i64 (n : Int)) ∧ w'.cell? ⟨g_x, 2, none⟩ = some (.slice PB2 pz2.length pb2) ∧ w'.cell? (ad.add (k * 2)) = some (.int .i64 (C k).1) ∧ w'.cell? ⟨(ad.add (k * 2)).block, (ad.add (k * 2)).off + 1, none⟩ = some (.int .i64 (C k).2)) [11] ⟨HS.out.c 2 0 (v := .int .i64 (d : Int)) rfl rfl, HS.out.c 2 1 (v := .int .i64 (n : Int)) rfl rfl, HS.out.c 2 2 (v := .slice B z.length b) rfl rfl, HS.out.c 3 0 (v := .int .i64 (d : Int)) rfl rfl, HS.out.c 3 1 (v := .int .i64 (n : Int)) rfl rfl, HS.out.c 3 2 (v := .slice PB2 pz2.length pb2) rfl rfl, HS.out.old H1.out, HS.out.old H2.out⟩ (fun hHeld => ?_)
                repeat (first | ((with_reducible refine gate_p ?_); refine rp rfl rfl ?_) | ((with_reducible refine gate_t ?_); refine rt rfl rfl hHeld ?_))
                refine run_two ?_ ?_
                · skip
                  refine run_e rfl (fun K hK => ?_)
                  refine gc Tryz.func114 (HP2.out PB2 pb2 _ (HS.out.reads 4 rfl) (HS.out.reads 1 rfl)) rfl rfl ?_
                  rintro e_ w1 ⟨B3, b3, rfl, hs⟩
                  refine ⟨_, rfl, ?_⟩
                  replace HS := sN1 HS hs
                  refine ge hK ⟨HS.out.c 3 0 (v := .int .i64 (d : Int)) rfl rfl, HS.out.c 3 1 (v := .int .i64 (n : Int)) rfl rfl, HS.out.c 3 2 (v := .slice B z.length b) rfl rfl, HS.out.c 4 0 (v := .int .i64 (d : Int)) rfl rfl, HS.out.c 4 1 (v := .int .i64 (n : Int)) rfl rfl, HS.out.c 4 2 (v := .slice PB2 pz2.length pb2) rfl rfl, HS.out.old H1.out, HS.out.old H2.out⟩ (fun hHeld => ?_)
                  repeat (first | ((with_reducible refine gate_p ?_); refine rp rfl rfl ?_) | ((with_reducible refine gate_t ?_); refine rt rfl rfl hHeld ?_))
                  refine run_e rfl (fun K hK => ?_)
                  refine bx1 26 #[(.int .i64 0), (.int .i64 0), (.slice none 0 0)] HS ?_
                  intro g_y2 w1 hg_y2 HS
                  refine ge hK ⟨HS.out.c 4 0 (v := .int .i64 (d : Int)) rfl rfl, HS.out.c 4 1 (v := .int .i64 (n : Int)) rfl rfl, HS.out.c 4 2 (v := .slice B z.length b) rfl rfl, HS.out.c 5 0 (v := .int .i64 (d : Int)) rfl rfl, HS.out.c 5 1 (v := .int .i64 (n : Int)) rfl rfl, HS.out.c 5 2 (v := .slice PB2 pz2.length pb2) rfl rfl, HS.out.old H1.out, HS.out.old H2.out⟩ (fun hHeld => ?_)
                  refine run_d rfl (fun K hK => ?_)
                  refine st1 HS 0 0 #[.int .i64 (d : Int), .int .i64 (n : Int), .slice B3 z2.length b3] rfl rfl rfl rfl rfl ?_
                  intro w1 HS
                  refine goD hK rfl ?_
                  repeat (first | ((with_reducible refine gate_p ?_); refine rp rfl rfl ?_) | ((with_reducible refine gate_t ?_); refine rt rfl rfl hHeld ?_))
                  refine run_done ?_
                  exact ⟨B3, b3, g_y2, rfl, HS⟩
                · skip
                  refine run_e rfl (fun K hK => ?_)
                  refine bx1 26 #[(.int .i64 0), (.int .i64 0), (.slice none 0 0)] HS ?_
                  intro g_y2 w1 hg_y2 HS
                  refine ge hK ⟨HS.out.c 3 0 (v := .int .i64 (d : Int)) rfl rfl, HS.out.c 3 1 (v := .int .i64 (n : Int)) rfl rfl, HS.out.c 3 2 (v := .slice B z.length b) rfl rfl, HS.out.c 4 0 (v := .int .i64 (d : Int)) rfl rfl, HS.out.c 4 1 (v := .int .i64 (n : Int)) rfl rfl, HS.out.c 4 2 (v := .slice PB2 pz2.length pb2) rfl rfl, HS.out.old H1.out, HS.out.old H2.out⟩ (fun hHeld => ?_)
                  refine run_e rfl (fun K hK => ?_)
                  refine gc Tryz.func114 (HP2.out PB2 pb2 _ (HS.out.reads 5 rfl) (HS.out.reads 2 rfl)) rfl rfl ?_
                  rintro e_ w1 ⟨B3, b3, rfl, hs⟩
                  refine ⟨_, rfl, ?_⟩
                  replace HS := sN1 HS hs
                  refine ge hK ⟨HS.out.c 4 0 (v := .int .i64 (d : Int)) rfl rfl, HS.out.c 4 1 (v := .int .i64 (n : Int)) rfl rfl, HS.out.c 4 2 (v := .slice B z.length b) rfl rfl, HS.out.c 5 0 (v := .int .i64 (d : Int)) rfl rfl, HS.out.c 5 1 (v := .int .i64 (n : Int)) rfl rfl, HS.out.c 5 2 (v := .slice PB2 pz2.length pb2) rfl rfl, HS.out.old H1.out, HS.out.old H2.out⟩ (fun hHeld => ?_)
                  repeat (first | ((with_reducible refine gate_p ?_); refine rp rfl rfl ?_) | ((with_reducible refine gate_t ?_); refine rt rfl rfl hHeld ?_))
                  refine run_d rfl (fun K hK => ?_)
                  refine st1 HS 1 0 #[.int .i64 (d : Int), .int .i64 (n : Int), .slice B3 z2.length b3] rfl rfl rfl rfl rfl ?_
                  intro w1 HS
                  refine goD hK rfl ?_
                  repeat (first | ((with_reducible refine gate_p ?_); refine rp rfl rfl ?_) | ((with_reducible refine gate_t ?_); refine rt rfl rfl hHeld ?_))
                  refine run_done ?_
                  have n_ := HS.out.sel [1, 0, 2, 3, 4, 5, 6, 7, 8, 9] (by decide)
                  simp only [List.filterMap_cons, List.filterMap_nil, List.getElem?_cons_zero, List.getElem?_cons_succ] at n_
                  exact ⟨B3, b3, g_y2, rfl, ⟨n_⟩⟩
              clear HS
              rintro a_ w1 ⟨B3, b3, g_y2, rfl, HS⟩
              have f1_ := HS.out.c 0 0 (v := .int .i64 (d : Int)) rfl rfl
              have f2_ := HS.out.c 0 1 (v := .int .i64 (n : Int)) rfl rfl
              have f3_ := HS.out.c 0 2 (v := .slice B3 z2.length b3) rfl rfl
              go_wp2_with (first | ((with_reducible refine gate_store (t := 26) (p := 7) rfl ?_); refine stL HS 4 0 #[.int .i64 (d : Int), .int .i64 (n : Int), .slice B3 z2.length b3] rfl rfl rfl rfl rfl ?_; clear HS f1_ f2_ f3_; intro w1 HS))
              go_roundw
              case rel => exact ⟨k + 1, PB2, pb2, pz2, B3, b3, z2, by omega, by go_num, HPK, HN, sX HS [4, 5, 1, 3, 8, 9]⟩
              case measure => simp [intOf]; omega
      · have HPK := Aside0.mk (show powO d n (some l) k = some pz by rw [show k = k - 1 by omega]; exact HPW.out)
        clear HPW
        by_cases hz : (C k).1 = 0
        · have hzb : ((C k).1 == 0) = true := by rw [hz]; rfl
          have HN := Aside0.mk ((outO_skip HPK.out hz).trans HZ.out)
          clear hz
          have f1_ := HS.out.old H1.out
          have f2_ := HS.out.old H2.out
          go_wp2_with (first | (go_at_call 43; refine (specZero _ _ _).mono ?_; rintro e_ w1 ⟨rfl, hb⟩; replace HS := sB HS hb; clear hb f1_ f2_))
          go_roundw
          case rel => exact ⟨k + 1, PB, pb, pz, B, b, z, by omega, by go_num, HPK, HN, sX HS [0, 1, 2, 3, 4, 5]⟩
          case measure => simp [intOf]; omega
        · have hzb : ((C k).1 == 0) = false := by simpa using hz
          obtain ⟨g, hg⟩ : ∃ g, g = addkS z pz (C k) := ⟨_, rfl⟩
          have HP2 := Aside0.mk (fun W k1 k2 => hg ▸ HAK.out B b z PB pb pz k W k1 k2 (HOT.out HZ.out) (HPT.out HPK.out) hz)
          have HN := Aside0.mk ((outO_step hz).trans (show two sumS (outO d n (some l) C k) ((powO d n (some l) k).bind fun p => scS p (C k)) = g by rw [HZ.out, HPK.out, hg]; rfl))
          clear hz hg
          cases g with
          | none =>
            have f1_ := HS.out.old H1.out
            have f2_ := HS.out.old H2.out
            go_wp2_with (first | (go_at_call 43; refine (specZero _ _ _).mono ?_; rintro e_ w1 ⟨rfl, hb⟩; replace HS := sB HS hb; clear hb f1_ f2_))
            replace HS := sD HS
            apply region_told ((fun (A0_ : Option Addr → Nat → Nat → Act) (a' : Act) (w' : World) => ∃ (B3 : Option Addr) (b3 : Nat) (g_y2 : Nat), a' = A0_ B3 b3 g_y2 ∧ Aside0 (Mod w w' No [bx g_y2 26 #[.int .i64 0, .int .i64 0, .slice B3 ([] : Ts).length b3], rowT B3 b3 [], bx g_q 26 #[.int .i64 (d : Int), .int .i64 (n : Int), .slice B z.length b], bx g_x 26 #[.int .i64 (d : Int), .int .i64 (n : Int), .slice PB pz.length pb], rowT B b z, rowT PB pb pz, bx g_r 26 #[(.int .i64 0), (.int .i64 0), (.slice none 0 0)], bx g_p 26 #[.int .i64 (d : Int), .int .i64 (n : Int), .slice A l.length c]])) _)
            case h1 =>
              refine ps (.p 2 (.p 3 (.p 4 (.t 0 (.t 1 (.t 5 (.two 6 10 (.p 7 (.p 8 (.p 9 (.e 10 (.d 11 (.p 12 .done)))))) (.e 6 (.p 7 (.p 8 (.p 9 (.d 11 (.p 12 .done))))))))))))) (fun w' => w'.cell? ⟨g_q, 0, none⟩ = some (.int .i64 (d : Int)) ∧ w'.cell? ⟨g_q, 1, none⟩ = some (.int .i64 (n : Int)) ∧ w'.cell? ⟨g_q, 2, none⟩ = some (.slice B z.length b) ∧ w'.cell? ⟨g_x, 0, none⟩ = some (.int .i64 (d : Int)) ∧ w'.cell? ⟨g_x, 1, none⟩ = some (.int .i64 (n : Int)) ∧ w'.cell? ⟨g_x, 2, none⟩ = some (.slice PB pz.length pb) ∧ w'.cell? (ad.add (k * 2)) = some (.int .i64 (C k).1) ∧ w'.cell? ⟨(ad.add (k * 2)).block, (ad.add (k * 2)).off + 1, none⟩ = some (.int .i64 (C k).2)) [11] ⟨HS.out.c 0 0 (v := .int .i64 (d : Int)) rfl rfl, HS.out.c 0 1 (v := .int .i64 (n : Int)) rfl rfl, HS.out.c 0 2 (v := .slice B z.length b) rfl rfl, HS.out.c 1 0 (v := .int .i64 (d : Int)) rfl rfl, HS.out.c 1 1 (v := .int .i64 (n : Int)) rfl rfl, HS.out.c 1 2 (v := .slice PB pz.length pb) rfl rfl, HS.out.old H1.out, HS.out.old H2.out⟩ (fun hHeld => ?_)
              repeat (first | ((with_reducible refine gate_p ?_); refine rp rfl rfl ?_) | ((with_reducible refine gate_t ?_); refine rt rfl rfl hHeld ?_))
              refine run_two ?_ ?_
              · skip
                refine run_e rfl (fun K hK => ?_)
                refine gc Tryz.func114 (HP2.out _ (HS.out.reads 2 rfl) (HS.out.reads 3 rfl)) rfl rfl ?_
                rintro e_ w1 ⟨B3, b3, rfl, hs⟩
                refine ⟨_, rfl, ?_⟩
                replace HS := sN1 HS hs
                refine ge hK ⟨HS.out.c 1 0 (v := .int .i64 (d : Int)) rfl rfl, HS.out.c 1 1 (v := .int .i64 (n : Int)) rfl rfl, HS.out.c 1 2 (v := .slice B z.length b) rfl rfl, HS.out.c 2 0 (v := .int .i64 (d : Int)) rfl rfl, HS.out.c 2 1 (v := .int .i64 (n : Int)) rfl rfl, HS.out.c 2 2 (v := .slice PB pz.length pb) rfl rfl, HS.out.old H1.out, HS.out.old H2.out⟩ (fun hHeld => ?_)
                repeat (first | ((with_reducible refine gate_p ?_); refine rp rfl rfl ?_) | ((with_reducible refine gate_t ?_); refine rt rfl rfl hHeld ?_))
                refine run_e rfl (fun K hK => ?_)
                refine bx1 26 #[(.int .i64 0), (.int .i64 0), (.slice none 0 0)] HS ?_
                intro g_y2 w1 hg_y2 HS
                refine ge hK ⟨HS.out.c 2 0 (v := .int .i64 (d : Int)) rfl rfl, HS.out.c 2 1 (v := .int .i64 (n : Int)) rfl rfl, HS.out.c 2 2 (v := .slice B z.length b) rfl rfl, HS.out.c 3 0 (v := .int .i64 (d : Int)) rfl rfl, HS.out.c 3 1 (v := .int .i64 (n : Int)) rfl rfl, HS.out.c 3 2 (v := .slice PB pz.length pb) rfl rfl, HS.out.old H1.out, HS.out.old H2.out⟩ (fun hHeld => ?_)
                refine run_d rfl (fun K hK => ?_)
                refine st1 HS 0 0 #[.int .i64 0, .int .i64 0, .slice B3 ([] : Ts).length b3] rfl rfl rfl rfl rfl ?_
                intro w1 HS
                refine goD hK rfl ?_
                repeat (first | ((with_reducible refine gate_p ?_); refine rp rfl rfl ?_) | ((with_reducible refine gate_t ?_); refine rt rfl rfl hHeld ?_))
                refine run_done ?_
                exact ⟨B3, b3, g_y2, rfl, HS⟩
              · skip
                refine run_e rfl (fun K hK => ?_)
                refine bx1 26 #[(.int .i64 0), (.int .i64 0), (.slice none 0 0)] HS ?_
                intro g_y2 w1 hg_y2 HS
                refine ge hK ⟨HS.out.c 1 0 (v := .int .i64 (d : Int)) rfl rfl, HS.out.c 1 1 (v := .int .i64 (n : Int)) rfl rfl, HS.out.c 1 2 (v := .slice B z.length b) rfl rfl, HS.out.c 2 0 (v := .int .i64 (d : Int)) rfl rfl, HS.out.c 2 1 (v := .int .i64 (n : Int)) rfl rfl, HS.out.c 2 2 (v := .slice PB pz.length pb) rfl rfl, HS.out.old H1.out, HS.out.old H2.out⟩ (fun hHeld => ?_)
                refine run_e rfl (fun K hK => ?_)
                refine gc Tryz.func114 (HP2.out _ (HS.out.reads 3 rfl) (HS.out.reads 4 rfl)) rfl rfl ?_
                rintro e_ w1 ⟨B3, b3, rfl, hs⟩
                refine ⟨_, rfl, ?_⟩
                replace HS := sN1 HS hs
                refine ge hK ⟨HS.out.c 2 0 (v := .int .i64 (d : Int)) rfl rfl, HS.out.c 2 1 (v := .int .i64 (n : Int)) rfl rfl, HS.out.c 2 2 (v := .slice B z.length b) rfl rfl, HS.out.c 3 0 (v := .int .i64 (d : Int)) rfl rfl, HS.out.c 3 1 (v := .int .i64 (n : Int)) rfl rfl, HS.out.c 3 2 (v := .slice PB pz.length pb) rfl rfl, HS.out.old H1.out, HS.out.old H2.out⟩ (fun hHeld => ?_)
                repeat (first | ((with_reducible refine gate_p ?_); refine rp rfl rfl ?_) | ((with_reducible refine gate_t ?_); refine rt rfl rfl hHeld ?_))
                refine run_d rfl (fun K hK => ?_)
                refine st1 HS 1 0 #[.int .i64 0, .int .i64 0, .slice B3 ([] : Ts).length b3] rfl rfl rfl rfl rfl ?_
                intro w1 HS
                refine goD hK rfl ?_
                repeat (first | ((with_reducible refine gate_p ?_); refine rp rfl rfl ?_) | ((with_reducible refine gate_t ?_); refine rt rfl rfl hHeld ?_))
                refine run_done ?_
                have n_ := HS.out.sel [1, 0, 2, 3, 4, 5, 6, 7] (by decide)
                simp only [List.filterMap_cons, List.filterMap_nil, List.getElem?_cons_zero, List.getElem?_cons_succ] at n_
                exact ⟨B3, b3, g_y2, rfl, ⟨n_⟩⟩
            clear HS
            rintro a_ w1 ⟨B3, b3, g_y2, rfl, HS⟩
            go_wp2_with (first | ((with_reducible refine gate_store (t := 26) (p := 4) rfl ?_); refine stL HS 6 0 #[(.int .i64 0), (.int .i64 0), (.slice none 0 0)] rfl rfl rfl rfl rfl ?_; clear HS; intro w1 HS))
            refine bodyPost_ret (results_cell_tmp_row rfl _ _ g_r 26 #[(.int .i64 0), (.int .i64 0), (.slice none 0 0)] (0, 0) _ rfl (HS.out.at (i := 6) rfl) Tryz.underlying26 rfl (by kernel_rfl)) rfl ?_
            rw [out_bad HN.out (by omega)]
            exact ⟨none, 0, rfl, nilS (HS.out.sel [] (by decide))⟩
          | some z2 =>
            have f1_ := HS.out.old H1.out
            have f2_ := HS.out.old H2.out
            go_wp2_with (first | (go_at_call 43; refine (specZero _ _ _).mono ?_; rintro e_ w1 ⟨rfl, hb⟩; replace HS := sB HS hb; clear hb f1_ f2_))
            replace HS := sD HS
            apply region_told ((fun (A0_ : Option Addr → Nat → Nat → Act) (a' : Act) (w' : World) => ∃ (B3 : Option Addr) (b3 : Nat) (g_y2 : Nat), a' = A0_ B3 b3 g_y2 ∧ Aside0 (Mod w w' No [bx g_y2 26 #[.int .i64 (d : Int), .int .i64 (n : Int), .slice B3 z2.length b3], rowT B3 b3 z2, bx g_q 26 #[.int .i64 (d : Int), .int .i64 (n : Int), .slice B z.length b], bx g_x 26 #[.int .i64 (d : Int), .int .i64 (n : Int), .slice PB pz.length pb], rowT B b z, rowT PB pb pz, bx g_r 26 #[(.int .i64 0), (.int .i64 0), (.slice none 0 0)], bx g_p 26 #[.int .i64 (d : Int), .int .i64 (n : Int), .slice A l.length c]])) _)
            case h1 =>
              refine ps (.p 2 (.p 3 (.p 4 (.t 0 (.t 1 (.t 5 (.two 6 10 (.p 7 (.p 8 (.p 9 (.e 10 (.d 11 (.p 12 .done)))))) (.e 6 (.p 7 (.p 8 (.p 9 (.d 11 (.p 12 .done))))))))))))) (fun w' => w'.cell? ⟨g_q, 0, none⟩ = some (.int .i64 (d : Int)) ∧ w'.cell? ⟨g_q, 1, none⟩ = some (.int .i64 (n : Int)) ∧ w'.cell? ⟨g_q, 2, none⟩ = some (.slice B z.length b) ∧ w'.cell? ⟨g_x, 0, none⟩ = some (.int .i64 (d : Int)) ∧ w'.cell? ⟨g_x, 1, none⟩ = some (.int .i64 (n : Int)) ∧ w'.cell? ⟨g_x, 2, none⟩ = some (.slice PB pz.length pb) ∧ w'.cell? (ad.add (k * 2)) = some (.int .i64 (C k).1) ∧ w'.cell? ⟨(ad.add (k * 2)).block, (ad.add (k * 2)).off + 1, none⟩ = some (.int .i64 (C k).2)) [11] ⟨HS.out.c 0 0 (v := .int .i64 (d : Int)) rfl rfl, HS.out.c 0 1 (v := .int .i64 (n : Int)) rfl rfl, HS.out.c 0 2 (v := .slice B z.length b) rfl rfl, HS.out.c 1 0 (v := .int .i64 (d : Int)) rfl rfl, HS.out.c 1 1 (v := .int .i64 (n : Int)) rfl rfl, HS.out.c 1 2 (v := .slice PB pz.length pb) rfl rfl, HS.out.old H1.out, HS.out.old H2.out⟩ (fun hHeld => ?_)
              repeat (first | ((with_reducible refine gate_p ?_); refine rp rfl rfl ?_) | ((with_reducible refine gate_t ?_); refine rt rfl rfl hHeld ?_))
              refine run_two ?_ ?_
              · skip
                refine run_e rfl (fun K hK => ?_)
                refine gc Tryz.func114 (HP2.out _ (HS.out.reads 2 rfl) (HS.out.reads 3 rfl)) rfl rfl ?_
                rintro e_ w1 ⟨B3, b3, rfl, hs⟩
                refine ⟨_, rfl, ?_⟩
                replace HS := sN1 HS hs
                refine ge hK ⟨HS.out.c 1 0 (v := .int .i64 (d : Int)) rfl rfl, HS.out.c 1 1 (v := .int .i64 (n : Int)) rfl rfl, HS.out.c 1 2 (v := .slice B z.length b) rfl rfl, HS.out.c 2 0 (v := .int .i64 (d : Int)) rfl rfl, HS.out.c 2 1 (v := .int .i64 (n : Int)) rfl rfl, HS.out.c 2 2 (v := .slice PB pz.length pb) rfl rfl, HS.out.old H1.out, HS.out.old H2.out⟩ (fun hHeld => ?_)
                repeat (first | ((with_reducible refine gate_p ?_); refine rp rfl rfl ?_) | ((with_reducible refine gate_t ?_); refine rt rfl rfl hHeld ?_))
                refine run_e rfl (fun K hK => ?_)
                refine bx1 26 #[(.int .i64 0), (.int .i64 0), (.slice none 0 0)] HS ?_
                intro g_y2 w1 hg_y2 HS
                refine ge hK ⟨HS.out.c 2 0 (v := .int .i64 (d : Int)) rfl rfl, HS.out.c 2 1 (v := .int .i64 (n : Int)) rfl rfl, HS.out.c 2 2 (v := .slice B z.length b) rfl rfl, HS.out.c 3 0 (v := .int .i64 (d : Int)) rfl rfl, HS.out.c 3 1 (v := .int .i64 (n : Int)) rfl rfl, HS.out.c 3 2 (v := .slice PB pz.length pb) rfl rfl, HS.out.old H1.out, HS.out.old H2.out⟩ (fun hHeld => ?_)
                refine run_d rfl (fun K hK => ?_)
                refine st1 HS 0 0 #[.int .i64 (d : Int), .int .i64 (n : Int), .slice B3 z2.length b3] rfl rfl rfl rfl rfl ?_
                intro w1 HS
                refine goD hK rfl ?_
                repeat (first | ((with_reducible refine gate_p ?_); refine rp rfl rfl ?_) | ((with_reducible refine gate_t ?_); refine rt rfl rfl hHeld ?_))
                refine run_done ?_
                exact ⟨B3, b3, g_y2, rfl, HS⟩
              · skip
                refine run_e rfl (fun K hK => ?_)
                refine bx1 26 #[(.int .i64 0), (.int .i64 0), (.slice none 0 0)] HS ?_
                intro g_y2 w1 hg_y2 HS
                refine ge hK ⟨HS.out.c 1 0 (v := .int .i64 (d : Int)) rfl rfl, HS.out.c 1 1 (v := .int .i64 (n : Int)) rfl rfl, HS.out.c 1 2 (v := .slice B z.length b) rfl rfl, HS.out.c 2 0 (v := .int .i64 (d : Int)) rfl rfl, HS.out.c 2 1 (v := .int .i64 (n : Int)) rfl rfl, HS.out.c 2 2 (v := .slice PB pz.length pb) rfl rfl, HS.out.old H1.out, HS.out.old H2.out⟩ (fun hHeld => ?_)
                refine run_e rfl (fun K hK => ?_)
                refine gc Tryz.func114 (HP2.out _ (HS.out.reads 3 rfl) (HS.out.reads 4 rfl)) rfl rfl ?_
                rintro e_ w1 ⟨B3, b3, rfl, hs⟩
                refine ⟨_, rfl, ?_⟩
                replace HS := sN1 HS hs
                refine ge hK ⟨HS.out.c 2 0 (v := .int .i64 (d : Int)) rfl rfl, HS.out.c 2 1 (v := .int .i64 (n : Int)) rfl rfl, HS.out.c 2 2 (v := .slice B z.length b) rfl rfl, HS.out.c 3 0 (v := .int .i64 (d : Int)) rfl rfl, HS.out.c 3 1 (v := .int .i64 (n : Int)) rfl rfl, HS.out.c 3 2 (v := .slice PB pz.length pb) rfl rfl, HS.out.old H1.out, HS.out.old H2.out⟩ (fun hHeld => ?_)
                repeat (first | ((with_reducible refine gate_p ?_); refine rp rfl rfl ?_) | ((with_reducible refine gate_t ?_); refine rt rfl rfl hHeld ?_))
                refine run_d rfl (fun K hK => ?_)
                refine st1 HS 1 0 #[.int .i64 (d : Int), .int .i64 (n : Int), .slice B3 z2.length b3] rfl rfl rfl rfl rfl ?_
                intro w1 HS
                refine goD hK rfl ?_
                repeat (first | ((with_reducible refine gate_p ?_); refine rp rfl rfl ?_) | ((with_reducible refine gate_t ?_); refine rt rfl rfl hHeld ?_))
                refine run_done ?_
                have n_ := HS.out.sel [1, 0, 2, 3, 4, 5, 6, 7] (by decide)
                simp only [List.filterMap_cons, List.filterMap_nil, List.getElem?_cons_zero, List.getElem?_cons_succ] at n_
                exact ⟨B3, b3, g_y2, rfl, ⟨n_⟩⟩
            clear HS
            rintro a_ w1 ⟨B3, b3, g_y2, rfl, HS⟩
            have f1_ := HS.out.c 0 0 (v := .int .i64 (d : Int)) rfl rfl
            have f2_ := HS.out.c 0 1 (v := .int .i64 (n : Int)) rfl rfl
            have f3_ := HS.out.c 0 2 (v := .slice B3 z2.length b3) rfl rfl
            go_wp2_with (first | ((with_reducible refine gate_store (t := 26) (p := 7) rfl ?_); refine stL HS 2 0 #[.int .i64 (d : Int), .int .i64 (n : Int), .slice B3 z2.length b3] rfl rfl rfl rfl rfl ?_; clear HS f1_ f2_ f3_; intro w1 HS))
            go_roundw
            case rel => exact ⟨k + 1, PB, pb, pz, B3, b3, z2, by omega, by go_num, HPK, HN, sX HS [2, 3, 1, 5, 6, 7]⟩
            case measure => simp [intOf]; omega
    · obtain rfl : k = m := by omega
      have f1_ := HS.out.c 0 0 (v := .int .i64 (d : Int)) rfl rfl
      have f2_ := HS.out.c 0 1 (v := .int .i64 (n : Int)) rfl rfl
      have f3_ := HS.out.c 0 2 (v := .slice B z.length b) rfl rfl
      go_wp2_with (first | ((with_reducible refine gate_store (t := 26) (p := 4) rfl ?_); refine stL HS 4 0 #[.int .i64 (d : Int), .int .i64 (n : Int), .slice B z.length b] rfl rfl rfl rfl rfl ?_; clear HS f1_ f2_ f3_; intro w1 HS))
      refine bodyPost_ret (results_cell_tmp_row rfl _ _ g_r 26 #[.int .i64 (d : Int), .int .i64 (n : Int), .slice B z.length b] (0, 0) _ rfl (HS.out.at (i := 4) rfl) Tryz.underlying26 rfl (by kernel_rfl)) rfl ?_
      rw [HZ.out]
      exact ⟨B, b, rfl, HS.out.sel [2] (by decide)⟩
set_option maxHeartbeats 8000000 in
theorem specLessQ (d n : Nat) (hd : d ≤ 3) (hn : n ≤ 5) (A : Option Addr) (c : Nat) (l : Ts) (k : Fr) (w : World) (hr : KT.C w A l.length l) (hx : isTs d n l = true) (hk : fr k = true) (h0 : k.1 ≠ 0) :
    Calls Tryz.prog 107 #[.agg #[.int .i64 (d : Int), .int .i64 (n : Int), .slice A l.length c], .agg #[.int .i64 k.1, .int .i64 k.2]] w (RetQ w (resQ d n ((scS l k).bind lessS))) := by
  have hd9 : d ≤ 9 := by omega
  have HR := Aside0.mk hr
  have HA := Aside0.mk (fun B b W k1 k2 => addk_nil hd9 hx hk ▸ specAddk d n hd hn B b [] A c l k W k1 k2 (isTs_nil d n) hx hk h0)
  obtain ⟨o, ho⟩ : ∃ o, o = scS l k := ⟨_, rfl⟩
  have HT := Aside0.mk (fun z (h : o = some z) => scale_ts (n := n) hd9 hx hk (ho.symm.trans h))
  rw [← ho] at HA
  rw [← ho]
  have HS := Aside0.mk (Sep.refl w)
  clear hr hx hk h0 ho
  cases o with
  | none =>
    go_enter Tryz.func107, Tryz.ntmps107
    go_wp2_with (first | ((with_reducible refine gate_dst (N := 2) rfl ?_); refine bxL 26 #[.int .i64 (d : Int), .int .i64 (n : Int), .slice A l.length c] HS ?_; clear HS; intro g_p w1 hg_p HS) | ((with_reducible refine gate_dst (N := 3) rfl ?_); refine bxL 37 #[.int .i64 k.1, .int .i64 k.2] HS ?_; clear HS; intro g_a w1 hg_a HS) | ((with_reducible refine gate_dst (N := 4) rfl ?_); refine bxL 26 #[(.int .i64 0), (.int .i64 0), (.slice none 0 0)] HS ?_; clear HS; intro g_r w1 hg_r HS))
    replace HS := sD HS
    apply region_told ((fun (A0_ : Option Addr → Nat → Option Addr → Nat → Nat → Act) (a' : Act) (w' : World) => ∃ (B : Option Addr) (b : Nat) (B2 : Option Addr) (b2 : Nat) (g_y : Nat), a' = A0_ B b B2 b2 g_y ∧ Aside0 (Mod w w' No [bx g_y 26 #[.int .i64 0, .int .i64 0, .slice B2 ([] : Ts).length b2], rowT B2 b2 [], rowT B b [], bx g_r 26 #[(.int .i64 0), (.int .i64 0), (.slice none 0 0)], bx g_a 37 #[.int .i64 k.1, .int .i64 k.2], bx g_p 26 #[.int .i64 (d : Int), .int .i64 (n : Int), .slice A l.length c]])) _)
    case h1 =>
      refine ps (.t 0 (.t 2 (.t 3 (.two 1 8 (.two 4 8 (.p 5 (.p 6 (.p 7 (.e 8 (.d 9 (.p 10 .done)))))) (.e 4 (.p 5 (.p 6 (.p 7 (.d 9 (.p 10 .done))))))) (.e 1 (.e 4 (.p 5 (.p 6 (.p 7 (.d 9 (.p 10 .done))))))))))) (fun w' => w'.cell? ⟨g_p, 0, none⟩ = some (.int .i64 (d : Int)) ∧ w'.cell? ⟨g_p, 1, none⟩ = some (.int .i64 (n : Int)) ∧ w'.cell? ⟨g_p, 2, none⟩ = some (.slice A l.length c) ∧ w'.cell? ⟨g_a, 0, none⟩ = some (.int .i64 k.1) ∧ w'.cell? ⟨g_a, 1, none⟩ = some (.int .i64 k.2)) [9] ⟨HS.out.c 2 0 (v := .int .i64 (d : Int)) rfl rfl, HS.out.c 2 1 (v := .int .i64 (n : Int)) rfl rfl, HS.out.c 2 2 (v := .slice A l.length c) rfl rfl, HS.out.c 1 0 (v := .int .i64 k.1) rfl rfl, HS.out.c 1 1 (v := .int .i64 k.2) rfl rfl⟩ (fun hHeld => ?_)
      repeat (first | ((with_reducible refine gate_p ?_); refine rp rfl rfl ?_) | ((with_reducible refine gate_t ?_); refine rt rfl rfl hHeld ?_))
      refine run_two ?_ ?_
      · skip
        refine run_e rfl (fun K hK => ?_)
        refine gc Tryz.func89 (specEmpty d n A l.length c _) rfl rfl ?_
        rintro e_ w1 ⟨B, b, rfl, hs⟩
        refine ⟨_, rfl, ?_⟩
        replace HS := sN1 HS hs
        refine ge hK ⟨HS.out.c 3 0 (v := .int .i64 (d : Int)) rfl rfl, HS.out.c 3 1 (v := .int .i64 (n : Int)) rfl rfl, HS.out.c 3 2 (v := .slice A l.length c) rfl rfl, HS.out.c 2 0 (v := .int .i64 k.1) rfl rfl, HS.out.c 2 1 (v := .int .i64 k.2) rfl rfl⟩ (fun hHeld => ?_)
        refine run_two ?_ ?_
        · skip
          refine run_e rfl (fun K hK => ?_)
          refine gc Tryz.func114 (HA.out B b _ (HS.out.reads 0 rfl) (HS.out.oldC HR.out)) rfl rfl ?_
          rintro e_ w1 ⟨B2, b2, rfl, hs⟩
          refine ⟨_, rfl, ?_⟩
          replace HS := sN1 HS hs
          refine ge hK ⟨HS.out.c 4 0 (v := .int .i64 (d : Int)) rfl rfl, HS.out.c 4 1 (v := .int .i64 (n : Int)) rfl rfl, HS.out.c 4 2 (v := .slice A l.length c) rfl rfl, HS.out.c 3 0 (v := .int .i64 k.1) rfl rfl, HS.out.c 3 1 (v := .int .i64 k.2) rfl rfl⟩ (fun hHeld => ?_)
          repeat (first | ((with_reducible refine gate_p ?_); refine rp rfl rfl ?_) | ((with_reducible refine gate_t ?_); refine rt rfl rfl hHeld ?_))
          refine run_e rfl (fun K hK => ?_)
          refine bx1 26 #[(.int .i64 0), (.int .i64 0), (.slice none 0 0)] HS ?_
          intro g_y w1 hg_y HS
          refine ge hK ⟨HS.out.c 5 0 (v := .int .i64 (d : Int)) rfl rfl, HS.out.c 5 1 (v := .int .i64 (n : Int)) rfl rfl, HS.out.c 5 2 (v := .slice A l.length c) rfl rfl, HS.out.c 4 0 (v := .int .i64 k.1) rfl rfl, HS.out.c 4 1 (v := .int .i64 k.2) rfl rfl⟩ (fun hHeld => ?_)
          refine run_d rfl (fun K hK => ?_)
          refine st1 HS 0 0 #[.int .i64 0, .int .i64 0, .slice B2 ([] : Ts).length b2] rfl rfl rfl rfl rfl ?_
          intro w1 HS
          refine goD hK rfl ?_
          repeat (first | ((with_reducible refine gate_p ?_); refine rp rfl rfl ?_) | ((with_reducible refine gate_t ?_); refine rt rfl rfl hHeld ?_))
          refine run_done ?_
          exact ⟨B, b, B2, b2, g_y, rfl, HS⟩
        · skip
          refine run_e rfl (fun K hK => ?_)
          refine bx1 26 #[(.int .i64 0), (.int .i64 0), (.slice none 0 0)] HS ?_
          intro g_y w1 hg_y HS
          refine ge hK ⟨HS.out.c 4 0 (v := .int .i64 (d : Int)) rfl rfl, HS.out.c 4 1 (v := .int .i64 (n : Int)) rfl rfl, HS.out.c 4 2 (v := .slice A l.length c) rfl rfl, HS.out.c 3 0 (v := .int .i64 k.1) rfl rfl, HS.out.c 3 1 (v := .int .i64 k.2) rfl rfl⟩ (fun hHeld => ?_)
          refine run_e rfl (fun K hK => ?_)
          refine gc Tryz.func114 (HA.out B b _ (HS.out.reads 1 rfl) (HS.out.oldC HR.out)) rfl rfl ?_
          rintro e_ w1 ⟨B2, b2, rfl, hs⟩
          refine ⟨_, rfl, ?_⟩
          replace HS := sN1 HS hs
          refine ge hK ⟨HS.out.c 5 0 (v := .int .i64 (d : Int)) rfl rfl, HS.out.c 5 1 (v := .int .i64 (n : Int)) rfl rfl, HS.out.c 5 2 (v := .slice A l.length c) rfl rfl, HS.out.c 4 0 (v := .int .i64 k.1) rfl rfl, HS.out.c 4 1 (v := .int .i64 k.2) rfl rfl⟩ (fun hHeld => ?_)
          repeat (first | ((with_reducible refine gate_p ?_); refine rp rfl rfl ?_) | ((with_reducible refine gate_t ?_); refine rt rfl rfl hHeld ?_))
          refine run_d rfl (fun K hK => ?_)
          refine st1 HS 1 0 #[.int .i64 0, .int .i64 0, .slice B2 ([] : Ts).length b2] rfl rfl rfl rfl rfl ?_
          intro w1 HS
          refine goD hK rfl ?_
          repeat (first | ((with_reducible refine gate_p ?_); refine rp rfl rfl ?_) | ((with_reducible refine gate_t ?_); refine rt rfl rfl hHeld ?_))
          refine run_done ?_
          have n_ := HS.out.sel [1, 0, 2, 3, 4, 5] (by decide)
          simp only [List.filterMap_cons, List.filterMap_nil, List.getElem?_cons_zero, List.getElem?_cons_succ] at n_
          exact ⟨B, b, B2, b2, g_y, rfl, ⟨n_⟩⟩
      · skip
        refine run_e rfl (fun K hK => ?_)
        refine bx1 26 #[(.int .i64 0), (.int .i64 0), (.slice none 0 0)] HS ?_
        intro g_y w1 hg_y HS
        refine ge hK ⟨HS.out.c 3 0 (v := .int .i64 (d : Int)) rfl rfl, HS.out.c 3 1 (v := .int .i64 (n : Int)) rfl rfl, HS.out.c 3 2 (v := .slice A l.length c) rfl rfl, HS.out.c 2 0 (v := .int .i64 k.1) rfl rfl, HS.out.c 2 1 (v := .int .i64 k.2) rfl rfl⟩ (fun hHeld => ?_)
        refine run_e rfl (fun K hK => ?_)
        refine gc Tryz.func89 (specEmpty d n A l.length c _) rfl rfl ?_
        rintro e_ w1 ⟨B, b, rfl, hs⟩
        refine ⟨_, rfl, ?_⟩
        replace HS := sN1 HS hs
        refine ge hK ⟨HS.out.c 4 0 (v := .int .i64 (d : Int)) rfl rfl, HS.out.c 4 1 (v := .int .i64 (n : Int)) rfl rfl, HS.out.c 4 2 (v := .slice A l.length c) rfl rfl, HS.out.c 3 0 (v := .int .i64 k.1) rfl rfl, HS.out.c 3 1 (v := .int .i64 k.2) rfl rfl⟩ (fun hHeld => ?_)
        refine run_e rfl (fun K hK => ?_)
        refine gc Tryz.func114 (HA.out B b _ (HS.out.reads 0 rfl) (HS.out.oldC HR.out)) rfl rfl ?_
        rintro e_ w1 ⟨B2, b2, rfl, hs⟩
        refine ⟨_, rfl, ?_⟩
        replace HS := sN1 HS hs
        refine ge hK ⟨HS.out.c 5 0 (v := .int .i64 (d : Int)) rfl rfl, HS.out.c 5 1 (v := .int .i64 (n : Int)) rfl rfl, HS.out.c 5 2 (v := .slice A l.length c) rfl rfl, HS.out.c 4 0 (v := .int .i64 k.1) rfl rfl, HS.out.c 4 1 (v := .int .i64 k.2) rfl rfl⟩ (fun hHeld => ?_)
        repeat (first | ((with_reducible refine gate_p ?_); refine rp rfl rfl ?_) | ((with_reducible refine gate_t ?_); refine rt rfl rfl hHeld ?_))
        refine run_d rfl (fun K hK => ?_)
        refine st1 HS 2 0 #[.int .i64 0, .int .i64 0, .slice B2 ([] : Ts).length b2] rfl rfl rfl rfl rfl ?_
        intro w1 HS
        refine goD hK rfl ?_
        repeat (first | ((with_reducible refine gate_p ?_); refine rp rfl rfl ?_) | ((with_reducible refine gate_t ?_); refine rt rfl rfl hHeld ?_))
        refine run_done ?_
        have n_ := HS.out.sel [2, 0, 1, 3, 4, 5] (by decide)
        simp only [List.filterMap_cons, List.filterMap_nil, List.getElem?_cons_zero, List.getElem?_cons_succ] at n_
        exact ⟨B, b, B2, b2, g_y, rfl, ⟨n_⟩⟩
    clear HS
    rintro a_ w1 ⟨B, b, B2, b2, g_y, rfl, HS⟩
    go_wp2_with (first | ((with_reducible refine gate_store (t := 26) (p := 4) rfl ?_); refine stL HS 3 0 #[(.int .i64 0), (.int .i64 0), (.slice none 0 0)] rfl rfl rfl rfl rfl ?_; clear HS; intro w1 HS))
    refine bodyPost_ret (results_cell_tmp_row rfl _ _ g_r 26 #[(.int .i64 0), (.int .i64 0), (.slice none 0 0)] (0, 0) _ rfl (HS.out.at (i := 3) rfl) Tryz.underlying26 rfl (by kernel_rfl)) rfl ?_
    exact ⟨none, 0, rfl, nilS (HS.out.sel [] (by decide))⟩
  | some z =>
    have HU := Aside0.mk (fun B b B2 b2 W k1 k2 => addk_unit z ▸ specAddk d n hd hn B b z B2 b2 unitT (-1, 1) W k1 k2 (HT.out z rfl) (unit_ts d n) (by decide) (by decide))
    obtain ⟨R, hR⟩ : ∃ R, R = resQ d n (lessS z) := ⟨_, rfl⟩
    rw [← hR] at HU
    rw [show resQ d n ((some z).bind lessS) = R from hR.symm]
    clear hR HT
    go_enter Tryz.func107, Tryz.ntmps107
    go_wp2_with (first | ((with_reducible refine gate_dst (N := 2) rfl ?_); refine bxL 26 #[.int .i64 (d : Int), .int .i64 (n : Int), .slice A l.length c] HS ?_; clear HS; intro g_p w1 hg_p HS) | ((with_reducible refine gate_dst (N := 3) rfl ?_); refine bxL 37 #[.int .i64 k.1, .int .i64 k.2] HS ?_; clear HS; intro g_a w1 hg_a HS) | ((with_reducible refine gate_dst (N := 4) rfl ?_); refine bxL 26 #[(.int .i64 0), (.int .i64 0), (.slice none 0 0)] HS ?_; clear HS; intro g_r w1 hg_r HS))
    replace HS := sD HS
    apply region_told ((fun (A0_ : Option Addr → Nat → Option Addr → Nat → Nat → Act) (a' : Act) (w' : World) => ∃ (B : Option Addr) (b : Nat) (B2 : Option Addr) (b2 : Nat) (g_y : Nat), a' = A0_ B b B2 b2 g_y ∧ Aside0 (Mod w w' No [bx g_y 26 #[.int .i64 (d : Int), .int .i64 (n : Int), .slice B2 z.length b2], rowT B2 b2 z, rowT B b [], bx g_r 26 #[(.int .i64 0), (.int .i64 0), (.slice none 0 0)], bx g_a 37 #[.int .i64 k.1, .int .i64 k.2], bx g_p 26 #[.int .i64 (d : Int), .int .i64 (n : Int), .slice A l.length c]])) _)
    case h1 =>
      refine ps (.t 0 (.t 2 (.t 3 (.two 1 8 (.two 4 8 (.p 5 (.p 6 (.p 7 (.e 8 (.d 9 (.p 10 .done)))))) (.e 4 (.p 5 (.p 6 (.p 7 (.d 9 (.p 10 .done))))))) (.e 1 (.e 4 (.p 5 (.p 6 (.p 7 (.d 9 (.p 10 .done))))))))))) (fun w' => w'.cell? ⟨g_p, 0, none⟩ = some (.int .i64 (d : Int)) ∧ w'.cell? ⟨g_p, 1, none⟩ = some (.int .i64 (n : Int)) ∧ w'.cell? ⟨g_p, 2, none⟩ = some (.slice A l.length c) ∧ w'.cell? ⟨g_a, 0, none⟩ = some (.int .i64 k.1) ∧ w'.cell? ⟨g_a, 1, none⟩ = some (.int .i64 k.2)) [9] ⟨HS.out.c 2 0 (v := .int .i64 (d : Int)) rfl rfl, HS.out.c 2 1 (v := .int .i64 (n : Int)) rfl rfl, HS.out.c 2 2 (v := .slice A l.length c) rfl rfl, HS.out.c 1 0 (v := .int .i64 k.1) rfl rfl, HS.out.c 1 1 (v := .int .i64 k.2) rfl rfl⟩ (fun hHeld => ?_)
      repeat (first | ((with_reducible refine gate_p ?_); refine rp rfl rfl ?_) | ((with_reducible refine gate_t ?_); refine rt rfl rfl hHeld ?_))
      refine run_two ?_ ?_
      · skip
        refine run_e rfl (fun K hK => ?_)
        refine gc Tryz.func89 (specEmpty d n A l.length c _) rfl rfl ?_
        rintro e_ w1 ⟨B, b, rfl, hs⟩
        refine ⟨_, rfl, ?_⟩
        replace HS := sN1 HS hs
        refine ge hK ⟨HS.out.c 3 0 (v := .int .i64 (d : Int)) rfl rfl, HS.out.c 3 1 (v := .int .i64 (n : Int)) rfl rfl, HS.out.c 3 2 (v := .slice A l.length c) rfl rfl, HS.out.c 2 0 (v := .int .i64 k.1) rfl rfl, HS.out.c 2 1 (v := .int .i64 k.2) rfl rfl⟩ (fun hHeld => ?_)
        refine run_two ?_ ?_
        · skip
          refine run_e rfl (fun K hK => ?_)
          refine gc Tryz.func114 (HA.out B b _ (HS.out.reads 0 rfl) (HS.out.oldC HR.out)) rfl rfl ?_
          rintro e_ w1 ⟨B2, b2, rfl, hs⟩
          refine ⟨_, rfl, ?_⟩
          replace HS := sN1 HS hs
          refine ge hK ⟨HS.out.c 4 0 (v := .int .i64 (d : Int)) rfl rfl, HS.out.c 4 1 (v := .int .i64 (n : Int)) rfl rfl, HS.out.c 4 2 (v := .slice A l.length c) rfl rfl, HS.out.c 3 0 (v := .int .i64 k.1) rfl rfl, HS.out.c 3 1 (v := .int .i64 k.2) rfl rfl⟩ (fun hHeld => ?_)
          repeat (first | ((with_reducible refine gate_p ?_); refine rp rfl rfl ?_) | ((with_reducible refine gate_t ?_); refine rt rfl rfl hHeld ?_))
          refine run_e rfl (fun K hK => ?_)
          refine bx1 26 #[(.int .i64 0), (.int .i64 0), (.slice none 0 0)] HS ?_
          intro g_y w1 hg_y HS
          refine ge hK ⟨HS.out.c 5 0 (v := .int .i64 (d : Int)) rfl rfl, HS.out.c 5 1 (v := .int .i64 (n : Int)) rfl rfl, HS.out.c 5 2 (v := .slice A l.length c) rfl rfl, HS.out.c 4 0 (v := .int .i64 k.1) rfl rfl, HS.out.c 4 1 (v := .int .i64 k.2) rfl rfl⟩ (fun hHeld => ?_)
          refine run_d rfl (fun K hK => ?_)
          refine st1 HS 0 0 #[.int .i64 (d : Int), .int .i64 (n : Int), .slice B2 z.length b2] rfl rfl rfl rfl rfl ?_
          intro w1 HS
          refine goD hK rfl ?_
          repeat (first | ((with_reducible refine gate_p ?_); refine rp rfl rfl ?_) | ((with_reducible refine gate_t ?_); refine rt rfl rfl hHeld ?_))
          refine run_done ?_
          exact ⟨B, b, B2, b2, g_y, rfl, HS⟩
        · skip
          refine run_e rfl (fun K hK => ?_)
          refine bx1 26 #[(.int .i64 0), (.int .i64 0), (.slice none 0 0)] HS ?_
          intro g_y w1 hg_y HS
          refine ge hK ⟨HS.out.c 4 0 (v := .int .i64 (d : Int)) rfl rfl, HS.out.c 4 1 (v := .int .i64 (n : Int)) rfl rfl, HS.out.c 4 2 (v := .slice A l.length c) rfl rfl, HS.out.c 3 0 (v := .int .i64 k.1) rfl rfl, HS.out.c 3 1 (v := .int .i64 k.2) rfl rfl⟩ (fun hHeld => ?_)
          refine run_e rfl (fun K hK => ?_)
          refine gc Tryz.func114 (HA.out B b _ (HS.out.reads 1 rfl) (HS.out.oldC HR.out)) rfl rfl ?_
          rintro e_ w1 ⟨B2, b2, rfl, hs⟩
          refine ⟨_, rfl, ?_⟩
          replace HS := sN1 HS hs
          refine ge hK ⟨HS.out.c 5 0 (v := .int .i64 (d : Int)) rfl rfl, HS.out.c 5 1 (v := .int .i64 (n : Int)) rfl rfl, HS.out.c 5 2 (v := .slice A l.length c) rfl rfl, HS.out.c 4 0 (v := .int .i64 k.1) rfl rfl, HS.out.c 4 1 (v := .int .i64 k.2) rfl rfl⟩ (fun hHeld => ?_)
          repeat (first | ((with_reducible refine gate_p ?_); refine rp rfl rfl ?_) | ((with_reducible refine gate_t ?_); refine rt rfl rfl hHeld ?_))
          refine run_d rfl (fun K hK => ?_)
          refine st1 HS 1 0 #[.int .i64 (d : Int), .int .i64 (n : Int), .slice B2 z.length b2] rfl rfl rfl rfl rfl ?_
          intro w1 HS
          refine goD hK rfl ?_
          repeat (first | ((with_reducible refine gate_p ?_); refine rp rfl rfl ?_) | ((with_reducible refine gate_t ?_); refine rt rfl rfl hHeld ?_))
          refine run_done ?_
          have n_ := HS.out.sel [1, 0, 2, 3, 4, 5] (by decide)
          simp only [List.filterMap_cons, List.filterMap_nil, List.getElem?_cons_zero, List.getElem?_cons_succ] at n_
          exact ⟨B, b, B2, b2, g_y, rfl, ⟨n_⟩⟩
      · skip
        refine run_e rfl (fun K hK => ?_)
        refine bx1 26 #[(.int .i64 0), (.int .i64 0), (.slice none 0 0)] HS ?_
        intro g_y w1 hg_y HS
        refine ge hK ⟨HS.out.c 3 0 (v := .int .i64 (d : Int)) rfl rfl, HS.out.c 3 1 (v := .int .i64 (n : Int)) rfl rfl, HS.out.c 3 2 (v := .slice A l.length c) rfl rfl, HS.out.c 2 0 (v := .int .i64 k.1) rfl rfl, HS.out.c 2 1 (v := .int .i64 k.2) rfl rfl⟩ (fun hHeld => ?_)
        refine run_e rfl (fun K hK => ?_)
        refine gc Tryz.func89 (specEmpty d n A l.length c _) rfl rfl ?_
        rintro e_ w1 ⟨B, b, rfl, hs⟩
        refine ⟨_, rfl, ?_⟩
        replace HS := sN1 HS hs
        refine ge hK ⟨HS.out.c 4 0 (v := .int .i64 (d : Int)) rfl rfl, HS.out.c 4 1 (v := .int .i64 (n : Int)) rfl rfl, HS.out.c 4 2 (v := .slice A l.length c) rfl rfl, HS.out.c 3 0 (v := .int .i64 k.1) rfl rfl, HS.out.c 3 1 (v := .int .i64 k.2) rfl rfl⟩ (fun hHeld => ?_)
        refine run_e rfl (fun K hK => ?_)
        refine gc Tryz.func114 (HA.out B b _ (HS.out.reads 0 rfl) (HS.out.oldC HR.out)) rfl rfl ?_
        rintro e_ w1 ⟨B2, b2, rfl, hs⟩
        refine ⟨_, rfl, ?_⟩
        replace HS := sN1 HS hs
        refine ge hK ⟨HS.out.c 5 0 (v := .int .i64 (d : Int)) rfl rfl, HS.out.c 5 1 (v := .int .i64 (n : Int)) rfl rfl, HS.out.c 5 2 (v := .slice A l.length c) rfl rfl, HS.out.c 4 0 (v := .int .i64 k.1) rfl rfl, HS.out.c 4 1 (v := .int .i64 k.2) rfl rfl⟩ (fun hHeld => ?_)
        repeat (first | ((with_reducible refine gate_p ?_); refine rp rfl rfl ?_) | ((with_reducible refine gate_t ?_); refine rt rfl rfl hHeld ?_))
        refine run_d rfl (fun K hK => ?_)
        refine st1 HS 2 0 #[.int .i64 (d : Int), .int .i64 (n : Int), .slice B2 z.length b2] rfl rfl rfl rfl rfl ?_
        intro w1 HS
        refine goD hK rfl ?_
        repeat (first | ((with_reducible refine gate_p ?_); refine rp rfl rfl ?_) | ((with_reducible refine gate_t ?_); refine rt rfl rfl hHeld ?_))
        refine run_done ?_
        have n_ := HS.out.sel [2, 0, 1, 3, 4, 5] (by decide)
        simp only [List.filterMap_cons, List.filterMap_nil, List.getElem?_cons_zero, List.getElem?_cons_succ] at n_
        exact ⟨B, b, B2, b2, g_y, rfl, ⟨n_⟩⟩
    clear HS
    rintro a_ w1 ⟨B, b, B2, b2, g_y, rfl, HS⟩
    go_wp2
    replace HS := sD HS
    apply region_told ((fun (A0_ : Option Addr → Nat → Option Addr → Nat → Nat → Act) (a' : Act) (w' : World) => ∃ (B3 : Option Addr) (b3 : Nat) (B4 : Option Addr) (b4 : Nat) (g_y2 : Nat), a' = A0_ B3 b3 B4 b4 g_y2 ∧ Aside0 (Mod w w' No [bx g_y2 26 #[.int .i64 R.1, .int .i64 R.2.1, .slice B4 R.2.2.1.length b4], rowT B4 b4 R.2.2.1, rowT B3 b3 unitT, bx g_y 26 #[.int .i64 (d : Int), .int .i64 (n : Int), .slice B2 z.length b2], rowT B2 b2 z, rowT B b [], bx g_r 26 #[(.int .i64 0), (.int .i64 0), (.slice none 0 0)], bx g_a 37 #[.int .i64 k.1, .int .i64 k.2], bx g_p 26 #[.int .i64 (d : Int), .int .i64 (n : Int), .slice A l.length c]])) _)
    case h1 =>
      refine ps (.t 0 (.t 1 (.two 2 8 (.two 3 8 (.two 4 8 (.p 5 (.p 6 (.p 7 (.e 8 (.d 9 (.p 10 .done)))))) (.e 4 (.p 5 (.p 6 (.p 7 (.d 9 (.p 10 .done))))))) (.e 3 (.e 4 (.p 5 (.p 6 (.p 7 (.d 9 (.p 10 .done)))))))) (.e 2 (.e 3 (.e 4 (.p 5 (.p 6 (.p 7 (.d 9 (.p 10 .done))))))))))) (fun w' => w'.cell? ⟨g_y, 0, none⟩ = some (.int .i64 (d : Int)) ∧ w'.cell? ⟨g_y, 1, none⟩ = some (.int .i64 (n : Int)) ∧ w'.cell? ⟨g_y, 2, none⟩ = some (.slice B2 z.length b2) ∧ w'.cell? ⟨g_p, 0, none⟩ = some (.int .i64 (d : Int)) ∧ w'.cell? ⟨g_p, 1, none⟩ = some (.int .i64 (n : Int)) ∧ w'.cell? ⟨g_p, 2, none⟩ = some (.slice A l.length c)) [9] ⟨HS.out.c 0 0 (v := .int .i64 (d : Int)) rfl rfl, HS.out.c 0 1 (v := .int .i64 (n : Int)) rfl rfl, HS.out.c 0 2 (v := .slice B2 z.length b2) rfl rfl, HS.out.c 5 0 (v := .int .i64 (d : Int)) rfl rfl, HS.out.c 5 1 (v := .int .i64 (n : Int)) rfl rfl, HS.out.c 5 2 (v := .slice A l.length c) rfl rfl⟩ (fun hHeld => ?_)
      repeat (first | ((with_reducible refine gate_p ?_); refine rp rfl rfl ?_) | ((with_reducible refine gate_t ?_); refine rt rfl rfl hHeld ?_))
      refine run_two ?_ ?_
      · skip
        refine run_e rfl (fun K hK => ?_)
        refine gc Tryz.func132 (specUnit d n A l.length c _) rfl rfl ?_
        rintro e_ w1 ⟨B3, b3, rfl, hs⟩
        refine ⟨_, rfl, ?_⟩
        replace HS := sN1 HS hs
        refine ge hK ⟨HS.out.c 1 0 (v := .int .i64 (d : Int)) rfl rfl, HS.out.c 1 1 (v := .int .i64 (n : Int)) rfl rfl, HS.out.c 1 2 (v := .slice B2 z.length b2) rfl rfl, HS.out.c 6 0 (v := .int .i64 (d : Int)) rfl rfl, HS.out.c 6 1 (v := .int .i64 (n : Int)) rfl rfl, HS.out.c 6 2 (v := .slice A l.length c) rfl rfl⟩ (fun hHeld => ?_)
        refine run_two ?_ ?_
        · skip
          refine run_e rfl (fun K hK => ?_)
          refine gc Tryz.func49 (specOne (-1) _) rfl rfl ?_
          rintro e_ w1 ⟨rfl, hb⟩
          refine ⟨_, rfl, ?_⟩
          replace HS := sB HS hb
          refine ge hK ⟨HS.out.c 1 0 (v := .int .i64 (d : Int)) rfl rfl, HS.out.c 1 1 (v := .int .i64 (n : Int)) rfl rfl, HS.out.c 1 2 (v := .slice B2 z.length b2) rfl rfl, HS.out.c 6 0 (v := .int .i64 (d : Int)) rfl rfl, HS.out.c 6 1 (v := .int .i64 (n : Int)) rfl rfl, HS.out.c 6 2 (v := .slice A l.length c) rfl rfl⟩ (fun hHeld => ?_)
          refine run_two ?_ ?_
          · skip
            refine run_e rfl (fun K hK => ?_)
            refine gc Tryz.func114 (HU.out B2 b2 B3 b3 _ (HS.out.reads 2 rfl) (HS.out.reads 0 rfl)) rfl rfl ?_
            rintro e_ w1 ⟨B4, b4, rfl, hs⟩
            refine ⟨_, rfl, ?_⟩
            replace HS := sN1 HS hs
            refine ge hK ⟨HS.out.c 2 0 (v := .int .i64 (d : Int)) rfl rfl, HS.out.c 2 1 (v := .int .i64 (n : Int)) rfl rfl, HS.out.c 2 2 (v := .slice B2 z.length b2) rfl rfl, HS.out.c 7 0 (v := .int .i64 (d : Int)) rfl rfl, HS.out.c 7 1 (v := .int .i64 (n : Int)) rfl rfl, HS.out.c 7 2 (v := .slice A l.length c) rfl rfl⟩ (fun hHeld => ?_)
            repeat (first | ((with_reducible refine gate_p ?_); refine rp rfl rfl ?_) | ((with_reducible refine gate_t ?_); refine rt rfl rfl hHeld ?_))
            refine run_e rfl (fun K hK => ?_)
            refine bx1 26 #[(.int .i64 0), (.int .i64 0), (.slice none 0 0)] HS ?_
            intro g_y2 w1 hg_y2 HS
            refine ge hK ⟨HS.out.c 3 0 (v := .int .i64 (d : Int)) rfl rfl, HS.out.c 3 1 (v := .int .i64 (n : Int)) rfl rfl, HS.out.c 3 2 (v := .slice B2 z.length b2) rfl rfl, HS.out.c 8 0 (v := .int .i64 (d : Int)) rfl rfl, HS.out.c 8 1 (v := .int .i64 (n : Int)) rfl rfl, HS.out.c 8 2 (v := .slice A l.length c) rfl rfl⟩ (fun hHeld => ?_)
            refine run_d rfl (fun K hK => ?_)
            refine st1 HS 0 0 #[.int .i64 R.1, .int .i64 R.2.1, .slice B4 R.2.2.1.length b4] rfl rfl rfl rfl rfl ?_
            intro w1 HS
            refine goD hK rfl ?_
            repeat (first | ((with_reducible refine gate_p ?_); refine rp rfl rfl ?_) | ((with_reducible refine gate_t ?_); refine rt rfl rfl hHeld ?_))
            refine run_done ?_
            exact ⟨B3, b3, B4, b4, g_y2, rfl, HS⟩
          · skip
            refine run_e rfl (fun K hK => ?_)
            refine bx1 26 #[(.int .i64 0), (.int .i64 0), (.slice none 0 0)] HS ?_
            intro g_y2 w1 hg_y2 HS
            refine ge hK ⟨HS.out.c 2 0 (v := .int .i64 (d : Int)) rfl rfl, HS.out.c 2 1 (v := .int .i64 (n : Int)) rfl rfl, HS.out.c 2 2 (v := .slice B2 z.length b2) rfl rfl, HS.out.c 7 0 (v := .int .i64 (d : Int)) rfl rfl, HS.out.c 7 1 (v := .int .i64 (n : Int)) rfl rfl, HS.out.c 7 2 (v := .slice A l.length c) rfl rfl⟩ (fun hHeld => ?_)
            refine run_e rfl (fun K hK => ?_)
            refine gc Tryz.func114 (HU.out B2 b2 B3 b3 _ (HS.out.reads 3 rfl) (HS.out.reads 1 rfl)) rfl rfl ?_
            rintro e_ w1 ⟨B4, b4, rfl, hs⟩
            refine ⟨_, rfl, ?_⟩
            replace HS := sN1 HS hs
            refine ge hK ⟨HS.out.c 3 0 (v := .int .i64 (d : Int)) rfl rfl, HS.out.c 3 1 (v := .int .i64 (n : Int)) rfl rfl, HS.out.c 3 2 (v := .slice B2 z.length b2) rfl rfl, HS.out.c 8 0 (v := .int .i64 (d : Int)) rfl rfl, HS.out.c 8 1 (v := .int .i64 (n : Int)) rfl rfl, HS.out.c 8 2 (v := .slice A l.length c) rfl rfl⟩ (fun hHeld => ?_)
            repeat (first | ((with_reducible refine gate_p ?_); refine rp rfl rfl ?_) | ((with_reducible refine gate_t ?_); refine rt rfl rfl hHeld ?_))
            refine run_d rfl (fun K hK => ?_)
            refine st1 HS 1 0 #[.int .i64 R.1, .int .i64 R.2.1, .slice B4 R.2.2.1.length b4] rfl rfl rfl rfl rfl ?_
            intro w1 HS
            refine goD hK rfl ?_
            repeat (first | ((with_reducible refine gate_p ?_); refine rp rfl rfl ?_) | ((with_reducible refine gate_t ?_); refine rt rfl rfl hHeld ?_))
            refine run_done ?_
            have n_ := HS.out.sel [1, 0, 2, 3, 4, 5, 6, 7, 8] (by decide)
            simp only [List.filterMap_cons, List.filterMap_nil, List.getElem?_cons_zero, List.getElem?_cons_succ] at n_
            exact ⟨B3, b3, B4, b4, g_y2, rfl, ⟨n_⟩⟩
        · skip
          refine run_e rfl (fun K hK => ?_)
          refine bx1 26 #[(.int .i64 0), (.int .i64 0), (.slice none 0 0)] HS ?_
          intro g_y2 w1 hg_y2 HS
          refine ge hK ⟨HS.out.c 2 0 (v := .int .i64 (d : Int)) rfl rfl, HS.out.c 2 1 (v := .int .i64 (n : Int)) rfl rfl, HS.out.c 2 2 (v := .slice B2 z.length b2) rfl rfl, HS.out.c 7 0 (v := .int .i64 (d : Int)) rfl rfl, HS.out.c 7 1 (v := .int .i64 (n : Int)) rfl rfl, HS.out.c 7 2 (v := .slice A l.length c) rfl rfl⟩ (fun hHeld => ?_)
          refine run_e rfl (fun K hK => ?_)
          refine gc Tryz.func49 (specOne (-1) _) rfl rfl ?_
          rintro e_ w1 ⟨rfl, hb⟩
          refine ⟨_, rfl, ?_⟩
          replace HS := sB HS hb
          refine ge hK ⟨HS.out.c 2 0 (v := .int .i64 (d : Int)) rfl rfl, HS.out.c 2 1 (v := .int .i64 (n : Int)) rfl rfl, HS.out.c 2 2 (v := .slice B2 z.length b2) rfl rfl, HS.out.c 7 0 (v := .int .i64 (d : Int)) rfl rfl, HS.out.c 7 1 (v := .int .i64 (n : Int)) rfl rfl, HS.out.c 7 2 (v := .slice A l.length c) rfl rfl⟩ (fun hHeld => ?_)
          refine run_e rfl (fun K hK => ?_)
          refine gc Tryz.func114 (HU.out B2 b2 B3 b3 _ (HS.out.reads 3 rfl) (HS.out.reads 1 rfl)) rfl rfl ?_
          rintro e_ w1 ⟨B4, b4, rfl, hs⟩
          refine ⟨_, rfl, ?_⟩
          replace HS := sN1 HS hs
          refine ge hK ⟨HS.out.c 3 0 (v := .int .i64 (d : Int)) rfl rfl, HS.out.c 3 1 (v := .int .i64 (n : Int)) rfl rfl, HS.out.c 3 2 (v := .slice B2 z.length b2) rfl rfl, HS.out.c 8 0 (v := .int .i64 (d : Int)) rfl rfl, HS.out.c 8 1 (v := .int .i64 (n : Int)) rfl rfl, HS.out.c 8 2 (v := .slice A l.length c) rfl rfl⟩ (fun hHeld => ?_)
          repeat (first | ((with_reducible refine gate_p ?_); refine rp rfl rfl ?_) | ((with_reducible refine gate_t ?_); refine rt rfl rfl hHeld ?_))
          refine run_d rfl (fun K hK => ?_)
          refine st1 HS 1 0 #[.int .i64 R.1, .int .i64 R.2.1, .slice B4 R.2.2.1.length b4] rfl rfl rfl rfl rfl ?_
          intro w1 HS
          refine goD hK rfl ?_
          repeat (first | ((with_reducible refine gate_p ?_); refine rp rfl rfl ?_) | ((with_reducible refine gate_t ?_); refine rt rfl rfl hHeld ?_))
          refine run_done ?_
          have n_ := HS.out.sel [1, 0, 2, 3, 4, 5, 6, 7, 8] (by decide)
          simp only [List.filterMap_cons, List.filterMap_nil, List.getElem?_cons_zero, List.getElem?_cons_succ] at n_
          exact ⟨B3, b3, B4, b4, g_y2, rfl, ⟨n_⟩⟩
      · skip
        refine run_e rfl (fun K hK => ?_)
        refine bx1 26 #[(.int .i64 0), (.int .i64 0), (.slice none 0 0)] HS ?_
        intro g_y2 w1 hg_y2 HS
        refine ge hK ⟨HS.out.c 1 0 (v := .int .i64 (d : Int)) rfl rfl, HS.out.c 1 1 (v := .int .i64 (n : Int)) rfl rfl, HS.out.c 1 2 (v := .slice B2 z.length b2) rfl rfl, HS.out.c 6 0 (v := .int .i64 (d : Int)) rfl rfl, HS.out.c 6 1 (v := .int .i64 (n : Int)) rfl rfl, HS.out.c 6 2 (v := .slice A l.length c) rfl rfl⟩ (fun hHeld => ?_)
        refine run_e rfl (fun K hK => ?_)
        refine gc Tryz.func132 (specUnit d n A l.length c _) rfl rfl ?_
        rintro e_ w1 ⟨B3, b3, rfl, hs⟩
        refine ⟨_, rfl, ?_⟩
        replace HS := sN1 HS hs
        refine ge hK ⟨HS.out.c 2 0 (v := .int .i64 (d : Int)) rfl rfl, HS.out.c 2 1 (v := .int .i64 (n : Int)) rfl rfl, HS.out.c 2 2 (v := .slice B2 z.length b2) rfl rfl, HS.out.c 7 0 (v := .int .i64 (d : Int)) rfl rfl, HS.out.c 7 1 (v := .int .i64 (n : Int)) rfl rfl, HS.out.c 7 2 (v := .slice A l.length c) rfl rfl⟩ (fun hHeld => ?_)
        refine run_e rfl (fun K hK => ?_)
        refine gc Tryz.func49 (specOne (-1) _) rfl rfl ?_
        rintro e_ w1 ⟨rfl, hb⟩
        refine ⟨_, rfl, ?_⟩
        replace HS := sB HS hb
        refine ge hK ⟨HS.out.c 2 0 (v := .int .i64 (d : Int)) rfl rfl, HS.out.c 2 1 (v := .int .i64 (n : Int)) rfl rfl, HS.out.c 2 2 (v := .slice B2 z.length b2) rfl rfl, HS.out.c 7 0 (v := .int .i64 (d : Int)) rfl rfl, HS.out.c 7 1 (v := .int .i64 (n : Int)) rfl rfl, HS.out.c 7 2 (v := .slice A l.length c) rfl rfl⟩ (fun hHeld => ?_)
        refine run_e rfl (fun K hK => ?_)
        refine gc Tryz.func114 (HU.out B2 b2 B3 b3 _ (HS.out.reads 3 rfl) (HS.out.reads 0 rfl)) rfl rfl ?_
        rintro e_ w1 ⟨B4, b4, rfl, hs⟩
        refine ⟨_, rfl, ?_⟩
        replace HS := sN1 HS hs
        refine ge hK ⟨HS.out.c 3 0 (v := .int .i64 (d : Int)) rfl rfl, HS.out.c 3 1 (v := .int .i64 (n : Int)) rfl rfl, HS.out.c 3 2 (v := .slice B2 z.length b2) rfl rfl, HS.out.c 8 0 (v := .int .i64 (d : Int)) rfl rfl, HS.out.c 8 1 (v := .int .i64 (n : Int)) rfl rfl, HS.out.c 8 2 (v := .slice A l.length c) rfl rfl⟩ (fun hHeld => ?_)
        repeat (first | ((with_reducible refine gate_p ?_); refine rp rfl rfl ?_) | ((with_reducible refine gate_t ?_); refine rt rfl rfl hHeld ?_))
        refine run_d rfl (fun K hK => ?_)
        refine st1 HS 2 0 #[.int .i64 R.1, .int .i64 R.2.1, .slice B4 R.2.2.1.length b4] rfl rfl rfl rfl rfl ?_
        intro w1 HS
        refine goD hK rfl ?_
        repeat (first | ((with_reducible refine gate_p ?_); refine rp rfl rfl ?_) | ((with_reducible refine gate_t ?_); refine rt rfl rfl hHeld ?_))
        refine run_done ?_
        have n_ := HS.out.sel [2, 0, 1, 3, 4, 5, 6, 7, 8] (by decide)
        simp only [List.filterMap_cons, List.filterMap_nil, List.getElem?_cons_zero, List.getElem?_cons_succ] at n_
        exact ⟨B3, b3, B4, b4, g_y2, rfl, ⟨n_⟩⟩
    clear HS
    rintro a_ w1 ⟨B3, b3, B4, b4, g_y2, rfl, HS⟩
    have f1_ := HS.out.c 0 0 (v := .int .i64 R.1) rfl rfl
    have f2_ := HS.out.c 0 1 (v := .int .i64 R.2.1) rfl rfl
    have f3_ := HS.out.c 0 2 (v := .slice B4 R.2.2.1.length b4) rfl rfl
    go_wp2_with (first | ((with_reducible refine gate_store (t := 26) (p := 4) rfl ?_); refine stL HS 6 0 #[.int .i64 R.1, .int .i64 R.2.1, .slice B4 R.2.2.1.length b4] rfl rfl rfl rfl rfl ?_; clear HS f1_ f2_ f3_; intro w1 HS))
    refine bodyPost_ret (results_cell_tmp_row rfl _ _ g_r 26 #[.int .i64 R.1, .int .i64 R.2.1, .slice B4 R.2.2.1.length b4] (0, 0) _ rfl (HS.out.at (i := 6) rfl) Tryz.underlying26 rfl (by kernel_rfl)) rfl ?_
    exact ⟨B4, b4, rfl, HS.out.sel [1] (by decide)⟩
theorem tab_at0 {w : World} {v d n : Nat} {f : ByteArray → Fr} (h : (tV v d n f).I w) : w.cell? ⟨v, 0, none⟩ = some (.int .i64 (f eps).1) ∧ w.cell? ⟨v, 1, none⟩ = some (.int .i64 (f eps).2) := by
  have := tab_at (s := eps) h (by rfl) (Nat.zero_le _)
  exact ⟨this.1, this.2.1⟩
end Go.Proofs.YtibjkjhpfmmjoaaGreat.H



