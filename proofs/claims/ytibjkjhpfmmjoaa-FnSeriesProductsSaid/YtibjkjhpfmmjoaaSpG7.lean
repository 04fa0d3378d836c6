/- Plain facts and contracts of functions that the law's walk uses. Conditions: those that stand in each statement. -/
import Derived.Test.YtibjkjhpfmmjoaaSpG4
import Derived.Test.YtibjkjhpfmmjoaaSpG1
import Derived.Test.YtibjkjhpfmmjoaaSpG6
import Derived.Test.YtibjkjhpfmmjoaaSpG5
namespace Go.Proofs.Ytibjkjhpfmmjoaa.H
open Go.RowKit Go.Proofs.YtibjkjhpfmmjoaaW.PrintWords Go.Proofs.YtibjkjhpfmmjoaaW.PrintLast Go.Proofs.YtibjkjhpfmmjoaaW.PrintMore Go.Proofs.Ytibjkjhpfmmjoaa.M
attribute [local go_sem] max2_int min2_int max_two min_two max_three min_three max_four min_four
set_option linter.unusedVariables false
set_option linter.unusedSimpArgs false
set_option maxRecDepth 100000
set_option maxHeartbeats 8000000 in
theorem implTimesTab (g1 v1 g2 v2 d n : Nat) (b1 b2 : Bool) (f1 f2 : ByteArray → Fr) (w : World) (hl : lev d n = true) (ht1 : (tS g1 v1 d n (nW d n) b1).I w) (hv1 : (tV v1 d n f1).I w) (ht2 : (tS g2 v2 d n (nW d n) b2).I w) (hv2 : (tV v2 d n f2).I w) (hf1 : good f1) (hf2 : good f2) :
    Calls Try.prog 68 #[.pointer (some ⟨g1, 0, none⟩), .pointer (some ⟨g2, 0, none⟩)] w fun e w' =>
      ∃ g' v', e = .returned (.pointer (some ⟨g', 0, none⟩)) ∧ Sep w w' [tS g' v' d n (nW d n) (timesT d n (f1, b1) (f2, b2)).2, tV v' d n (timesT d n (f1, b1) (f2, b2)).1] := by
  obtain ⟨hd1, hd3, hn1, hn5⟩ := lev_bd hl
  have hd9 : d ≤ 9 := by omega
  have hNl := nW_le hl
  have HT1 := Aside0.mk ht1
  have HV1 := Aside0.mk hv1
  have HT2 := Aside0.mk ht2
  have HV2 := Aside0.mk hv2
  have HL := Aside0.mk hl
  have HF1 := Aside0.mk hf1
  have HF2 := Aside0.mk hf2
  have HG := Aside0.mk (fun k (h : k < nW d n) => (⟨_, List.getElem?_eq_getElem h⟩ : ∃ s, (allW d n)[k]? = some s))
  clear ht1 hv1 ht2 hv2 hl hf1 hf2
  have HCK := Aside0.mk (fun W h => implLike g1 v1 d n (nW d n) b1 W HL.out h)
  have HA := Aside0.mk (fun W => implAllWords d n W hd3 hn5)
  have HW := Aside0.mk (fun (A : Option Addr) (W : World) (k : Nat) (h : Kd.string.C W A (allW d n).length (allW d n)) (hk : k < nW d n) => str_at h k hk)
  have HAT1 := Aside0.mk (fun W s k1 k2 k3 k4 => implAt g1 v1 d n b1 f1 s W HL.out k1 k2 k3 k4)
  have HAT2 := Aside0.mk (fun W s k1 k2 k3 k4 => implAt g2 v2 d n b2 f2 s W HL.out k1 k2 k3 k4)
  have HAD := Aside0.mk (fun g v (H : Tb) s a b W k1 k2 k3 k4 k5 k6 k7 => implAddTimes g v d n H.2 H.1 s a b W HL.out k1 k2 k3 k4 k5 k6 k7)
  have HEND := Aside0.mk (show timesT d n (f1, b1) (f2, b2) = addsT ((fun _ => (0, 1)), b1 || b2) (timesU f1 f2 ((allW d n).take (nW d n))) by rw [List.take_length]; rfl)
  obtain ⟨N, hN⟩ : ∃ N, N = nW d n := ⟨_, rfl⟩
  rw [← hN] at HT1 HT2 HG hNl HCK HAT1 HAT2 HAD HEND HW
  rw [← hN]
  rw [show (allW d n).length = N from hN.symm] at HA HW
  obtain ⟨l, hll⟩ : ∃ l, l = allW d n := ⟨_, rfl⟩
  have HL2 := Aside0.mk hll
  unfold rowS at HA
  rw [← hll] at HA HW
  have HLN := Aside0.mk (show l.length = N by rw [hll, hN])
  rw [HLN.out] at HA
  clear hN hll
  have HS := Aside0.mk (Sep.refl w)
  cases b1
  case' true =>
    go_enter Try.func68, Try.ntmps68
    go_wp2_with (first | (go_at_call 114; refine (HCK.out _ (HS.out.oldI HT1.out)).mono ?_; rintro e_ w1 ⟨g', v', rfl, hs⟩; replace HS := sN2 HS hs; clear hs; have f1_ := bx_c (HS.out.oldI HT1.out) 3 (v := .bool true) rfl) | ((with_reducible refine gate_store (t := 4) (p := 25) rfl ?_); refine stL HS 0 3 #[.int .i64 (d : Int), .int .i64 (n : Int), .slice (some ⟨v', 0, none⟩) N N, (.bool true)] rfl rfl rfl rfl rfl ?_; clear HS f1_; intro w1 HS))
    replace HS := sD HS
    refine ps (.p 0 (.p 1 (.p 2 (.p 4 (.p 5 (.p 6 (.p 10 (.t 3 (.t 7 (.d 8 (.p 9 .done))))))))))) (fun w' => w'.cell? ⟨g1, 0, none⟩ = some (.int .i64 (d : Int)) ∧ w'.cell? ⟨g1, 1, none⟩ = some (.int .i64 (n : Int))) [8] ⟨bx_c (HS.out.oldI HT1.out) 0 (v := .int .i64 (d : Int)) rfl, bx_c (HS.out.oldI HT1.out) 1 (v := .int .i64 (n : Int)) rfl⟩ (fun hHeld => ?_)
    repeat (first | ((with_reducible refine gate_p ?_); refine rp rfl rfl ?_) | ((with_reducible refine gate_t ?_); refine rt rfl rfl hHeld ?_))
    refine run_d rfl (fun K hK => ?_)
    refine gc Try.func115 (HA.out _) rfl rfl ?_
    rintro e_ w1 ⟨B, b, rfl, hs⟩
    refine ⟨_, rfl, ?_⟩
    replace HS := sN1 HS hs
    clear hs
    refine gd hK ?_
    clear hK K
    repeat (first | ((with_reducible refine gate_p ?_); refine rp rfl rfl ?_) | ((with_reducible refine gate_t ?_); refine rt rfl rfl hHeld ?_))
    refine run_done ?_
    clear hHeld
    go_wp2
  case' false =>
    go_enter Try.func68, Try.ntmps68
    go_wp2_with (first | (go_at_call 114; refine (HCK.out _ (HS.out.oldI HT1.out)).mono ?_; rintro e_ w1 ⟨g', v', rfl, hs⟩; replace HS := sN2 HS hs; clear hs; have f1_ := bx_c (HS.out.oldI HT1.out) 3 (v := .bool false) rfl; have f2_ := bx_c (HS.out.oldI HT2.out) 3 (v := .bool b2) rfl) | ((with_reducible refine gate_store (t := 4) (p := 25) rfl ?_); refine stL HS 0 3 #[.int .i64 (d : Int), .int .i64 (n : Int), .slice (some ⟨v', 0, none⟩) N N, (.bool b2)] rfl rfl rfl rfl rfl ?_; clear HS f1_ f2_; intro w1 HS))
    replace HS := sD HS
    refine ps (.p 0 (.p 1 (.p 2 (.p 4 (.p 5 (.p 6 (.p 10 (.t 3 (.t 7 (.d 8 (.p 9 .done))))))))))) (fun w' => w'.cell? ⟨g1, 0, none⟩ = some (.int .i64 (d : Int)) ∧ w'.cell? ⟨g1, 1, none⟩ = some (.int .i64 (n : Int))) [8] ⟨bx_c (HS.out.oldI HT1.out) 0 (v := .int .i64 (d : Int)) rfl, bx_c (HS.out.oldI HT1.out) 1 (v := .int .i64 (n : Int)) rfl⟩ (fun hHeld => ?_)
    repeat (first | ((with_reducible refine gate_p ?_); refine rp rfl rfl ?_) | ((with_reducible refine gate_t ?_); refine rt rfl rfl hHeld ?_))
    refine run_d rfl (fun K hK => ?_)
    refine gc Try.func115 (HA.out _) rfl rfl ?_
    rintro e_ w1 ⟨B, b, rfl, hs⟩
    refine ⟨_, rfl, ?_⟩
    replace HS := sN1 HS hs
    clear hs
    refine gd hK ?_
    clear hK K
    repeat (first | ((with_reducible refine gate_p ?_); refine rp rfl rfl ?_) | ((with_reducible refine gate_t ?_); refine rt rfl rfl hHeld ?_))
    refine run_done ?_
    clear hHeld
    go_wp2
  all_goals
    go_loopw [36] (fun q w' => ∃ (i : Nat) (H : Tb), i ≤ N ∧ q = .int .i64 (i : Int) ∧ Aside0 (H = addsT ((fun _ => (0, 1)), _) (timesU f1 f2 ((allW d n).take i))) ∧ Aside0 (good H.1) ∧ Aside0 (Mod w w' No [rw' Kd.string rfl 9 (.slice B N b) l, bx g' 92 #[.int .i64 (d : Int), .int .i64 (n : Int), .slice (some ⟨v', 0, none⟩) N N, .bool H.2], tV v' d n H.1])) (fun q _ => N - (intOf q).toNat)
    case atStart => exact ⟨0, ((fun _ => (0, 1)), _), by omega, rfl, ⟨rfl⟩, ⟨good_zero⟩, HS⟩
    case round =>
      clear HS
      obtain ⟨i, H, hi, rfl, HM, HGd, HS⟩ := hrel
      by_cases hlt : i < N
      · obtain ⟨s, hs⟩ := HG.out i hlt
        obtain ⟨ad, ea, h0_⟩ := HW.out B _ i (by have := HS.out.reads 0 rfl; rwa [HLN.out] at this) hlt
        cases ea
        have hs' : l.getD i ByteArray.empty = s := by rw [List.getD_eq_getElem?_getD, HL2.out, hs]; rfl
        rw [hs'] at h0_
        obtain ⟨hw1, hw2, _⟩ := num_at hd9 hs
        have HSW := Aside0.mk hw1
        have HTK := Aside0.mk (show (allW d n).take (i + 1) = (allW d n).take i ++ [s] by rw [List.take_add_one, hs]; rfl)
        have H0 := Aside0.mk h0_
        clear hs hs' h0_ hw1
        have f1_ := H0.out
        go_wp2
        clear H0
        go_loopw [43] (fun q w' => ∃ (k : Nat) (H' : Tb), k ≤ s.size + 1 ∧ q = .int .i64 (k : Int) ∧ Aside0 (H' = addsT H (cutU f1 f2 s k)) ∧ Aside0 (good H'.1) ∧ Aside0 (Mod w w' No [rw' Kd.string rfl 9 (.slice (some ad) N b) l, bx g' 92 #[.int .i64 (d : Int), .int .i64 (n : Int), .slice (some ⟨v', 0, none⟩) N N, .bool H'.2], tV v' d n H'.1])) (fun q _ => s.size + 1 - (intOf q).toNat)
        case atStart => exact ⟨0, H, by omega, rfl, ⟨rfl⟩, HGd, HS⟩
        case round =>
          clear HS
          obtain ⟨k, H', hk, rfl, HM2, HGd2, HS⟩ := hrel
          by_cases hkt : k < s.size + 1
          · have hks : k ≤ s.size := by omega
            have HX1 := Aside0.mk (wl_wd HSW.out k)
            have HX2 := Aside0.mk (wr_wd HSW.out k)
            have hy1 : (s.extract 0 k).size ≤ n := by rw [wl_size (by omega)]; omega
            have hy2 : (s.extract k s.size).size ≤ n := by rw [wr_size]; omega
            go_wp2
            replace HS := sD HS
            apply region_told ((fun (A0_ : Nat → Nat → Act) (a' : Act) (w' : World) => ∃ (g_a : Nat) (g_c : Nat), a' = A0_ g_a g_c ∧ Aside0 (Mod w w' No [bx g_c 34 #[.int .i64 (f2 (s.extract k s.size)).1, .int .i64 (f2 (s.extract k s.size)).2], bx g_a 34 #[.int .i64 (f1 (s.extract 0 k)).1, .int .i64 (f1 (s.extract 0 k)).2], rw' Kd.string rfl 9 (.slice (some ad) N b) l, bx g' 92 #[.int .i64 (d : Int), .int .i64 (n : Int), .slice (some ⟨v', 0, none⟩) N N, .bool H'.2], tV v' d n H'.1])) _)
            case h1 =>
              refine ps (.p 0 (.p 1 (.p 2 (.p 3 (.p 5 (.p 6 (.p 7 (.p 8 (.three 4 10 11 (.three 9 10 11 (.two 10 11 (.e 11 (.e 12 (.e 13 .done))) (.e 10 (.e 12 (.e 13 .done)))) (.two 9 11 (.e 11 (.e 12 (.e 13 .done))) (.e 9 (.e 12 (.e 13 .done)))) (.two 9 10 (.e 10 (.e 12 (.e 13 .done))) (.e 9 (.e 12 (.e 13 .done))))) (.two 4 11 (.two 9 11 (.e 11 (.e 12 (.e 13 .done))) (.e 9 (.e 12 (.e 13 .done)))) (.e 4 (.e 9 (.e 12 (.e 13 .done))))) (.two 4 10 (.two 9 10 (.e 10 (.e 12 (.e 13 .done))) (.e 9 (.e 12 (.e 13 .done)))) (.e 4 (.e 9 (.e 12 (.e 13 .done)))))))))))))) (fun w' => True) [] trivial (fun hHeld => ?_)
              repeat (first | ((with_reducible refine gate_p ?_); refine rp rfl rfl ?_))
              refine run_three ?_ ?_ ?_
              · skip
                refine run_e rfl (fun K hK => ?_)
                refine gc Try.func65 (HAT1.out _ (s.extract 0 k) (HS.out.oldI HT1.out) (HS.out.oldI HV1.out) HX1.out hy1) rfl rfl ?_
                rintro e_ w1 ⟨rfl, hb⟩
                refine ⟨_, rfl, ?_⟩
                replace HS := sB HS hb
                refine ge hK trivial (fun hHeld => ?_)
                refine run_three ?_ ?_ ?_
                · skip
                  refine run_e rfl (fun K hK => ?_)
                  refine gc Try.func65 (HAT2.out _ (s.extract k s.size) (HS.out.oldI HT2.out) (HS.out.oldI HV2.out) HX2.out hy2) rfl rfl ?_
                  rintro e_ w1 ⟨rfl, hb⟩
                  refine ⟨_, rfl, ?_⟩
                  replace HS := sB HS hb
                  refine ge hK trivial (fun hHeld => ?_)
                  refine run_two ?_ ?_
                  · skip
                    refine run_e rfl (fun K hK => ?_)
                    refine bx1 34 #[(.int .i64 0), (.int .i64 0)] HS ?_
                    intro g_a w1 hg_a HS
                    refine ge hK trivial (fun hHeld => ?_)
                    refine run_e rfl (fun K hK => ?_)
                    refine bx1 34 #[(.int .i64 0), (.int .i64 0)] HS ?_
                    intro g_c w1 hg_c HS
                    refine ge hK trivial (fun hHeld => ?_)
                    refine run_e rfl (fun K hK => ?_)
                    refine st1 HS 1 0 #[.int .i64 (f1 (s.extract 0 k)).1, .int .i64 (f1 (s.extract 0 k)).2] rfl rfl rfl rfl rfl ?_
                    intro w1 HS
                    refine goE hK trivial rfl (fun hHeld => ?_)
                    refine run_e rfl (fun K hK => ?_)
                    refine st1 HS 0 0 #[.int .i64 (f2 (s.extract k s.size)).1, .int .i64 (f2 (s.extract k s.size)).2] rfl rfl rfl rfl rfl ?_
                    intro w1 HS
                    refine goE hK trivial rfl (fun hHeld => ?_)
                    refine run_done ?_
                    exact ⟨g_a, g_c, rfl, HS⟩
                  · skip
                    refine run_e rfl (fun K hK => ?_)
                    refine bx1 34 #[(.int .i64 0), (.int .i64 0)] HS ?_
                    intro g_c w1 hg_c HS
                    refine ge hK trivial (fun hHeld => ?_)
                    refine run_e rfl (fun K hK => ?_)
                    refine bx1 34 #[(.int .i64 0), (.int .i64 0)] HS ?_
                    intro g_a w1 hg_a HS
                    refine ge hK trivial (fun hHeld => ?_)
                    refine run_e rfl (fun K hK => ?_)
                    refine st1 HS 0 0 #[.int .i64 (f1 (s.extract 0 k)).1, .int .i64 (f1 (s.extract 0 k)).2] rfl rfl rfl rfl rfl ?_
                    intro w1 HS
                    refine goE hK trivial rfl (fun hHeld => ?_)
                    refine run_e rfl (fun K hK => ?_)
                    refine st1 HS 1 0 #[.int .i64 (f2 (s.extract k s.size)).1, .int .i64 (f2 (s.extract k s.size)).2] rfl rfl rfl rfl rfl ?_
                    intro w1 HS
                    refine goE hK trivial rfl (fun hHeld => ?_)
                    refine run_done ?_
                    have n_ := HS.out.sel [1, 0, 2, 3, 4] (by decide)
                    simp only [List.filterMap_cons, List.filterMap_nil, List.getElem?_cons_zero, List.getElem?_cons_succ] at n_
                    exact ⟨g_a, g_c, rfl, ⟨n_⟩⟩
                · skip
                  refine run_e rfl (fun K hK => ?_)
                  refine bx1 34 #[(.int .i64 0), (.int .i64 0)] HS ?_
                  intro g_a w1 hg_a HS
                  refine ge hK trivial (fun hHeld => ?_)
                  refine run_two ?_ ?_
                  · skip
                    refine run_e rfl (fun K hK => ?_)
                    refine gc Try.func65 (HAT2.out _ (s.extract k s.size) (HS.out.oldI HT2.out) (HS.out.oldI HV2.out) HX2.out hy2) rfl rfl ?_
                    rintro e_ w1 ⟨rfl, hb⟩
                    refine ⟨_, rfl, ?_⟩
                    replace HS := sB HS hb
                    refine ge hK trivial (fun hHeld => ?_)
                    refine run_e rfl (fun K hK => ?_)
                    refine bx1 34 #[(.int .i64 0), (.int .i64 0)] HS ?_
                    intro g_c w1 hg_c HS
                    refine ge hK trivial (fun hHeld => ?_)
                    refine run_e rfl (fun K hK => ?_)
                    refine st1 HS 1 0 #[.int .i64 (f1 (s.extract 0 k)).1, .int .i64 (f1 (s.extract 0 k)).2] rfl rfl rfl rfl rfl ?_
                    intro w1 HS
                    refine goE hK trivial rfl (fun hHeld => ?_)
                    refine run_e rfl (fun K hK => ?_)
                    refine st1 HS 0 0 #[.int .i64 (f2 (s.extract k s.size)).1, .int .i64 (f2 (s.extract k s.size)).2] rfl rfl rfl rfl rfl ?_
                    intro w1 HS
                    refine goE hK trivial rfl (fun hHeld => ?_)
                    refine run_done ?_
                    have n_ := HS.out.sel [0, 1, 2, 3, 4] (by decide)
                    simp only [List.filterMap_cons, List.filterMap_nil, List.getElem?_cons_zero, List.getElem?_cons_succ] at n_
                    exact ⟨g_a, g_c, rfl, ⟨n_⟩⟩
                  · skip
                    refine run_e rfl (fun K hK => ?_)
                    refine bx1 34 #[(.int .i64 0), (.int .i64 0)] HS ?_
                    intro g_c w1 hg_c HS
                    refine ge hK trivial (fun hHeld => ?_)
                    refine run_e rfl (fun K hK => ?_)
                    refine gc Try.func65 (HAT2.out _ (s.extract k s.size) (HS.out.oldI HT2.out) (HS.out.oldI HV2.out) HX2.out hy2) rfl rfl ?_
                    rintro e_ w1 ⟨rfl, hb⟩
                    refine ⟨_, rfl, ?_⟩
                    replace HS := sB HS hb
                    refine ge hK trivial (fun hHeld => ?_)
                    refine run_e rfl (fun K hK => ?_)
                    refine st1 HS 1 0 #[.int .i64 (f1 (s.extract 0 k)).1, .int .i64 (f1 (s.extract 0 k)).2] rfl rfl rfl rfl rfl ?_
                    intro w1 HS
                    refine goE hK trivial rfl (fun hHeld => ?_)
                    refine run_e rfl (fun K hK => ?_)
                    refine st1 HS 0 0 #[.int .i64 (f2 (s.extract k s.size)).1, .int .i64 (f2 (s.extract k s.size)).2] rfl rfl rfl rfl rfl ?_
                    intro w1 HS
                    refine goE hK trivial rfl (fun hHeld => ?_)
                    refine run_done ?_
                    have n_ := HS.out.sel [0, 1, 2, 3, 4] (by decide)
                    simp only [List.filterMap_cons, List.filterMap_nil, List.getElem?_cons_zero, List.getElem?_cons_succ] at n_
                    exact ⟨g_a, g_c, rfl, ⟨n_⟩⟩
                · skip
                  refine run_e rfl (fun K hK => ?_)
                  refine bx1 34 #[(.int .i64 0), (.int .i64 0)] HS ?_
                  intro g_c w1 hg_c HS
                  refine ge hK trivial (fun hHeld => ?_)
                  refine run_two ?_ ?_
                  · skip
                    refine run_e rfl (fun K hK => ?_)
                    refine gc Try.func65 (HAT2.out _ (s.extract k s.size) (HS.out.oldI HT2.out) (HS.out.oldI HV2.out) HX2.out hy2) rfl rfl ?_
                    rintro e_ w1 ⟨rfl, hb⟩
                    refine ⟨_, rfl, ?_⟩
                    replace HS := sB HS hb
                    refine ge hK trivial (fun hHeld => ?_)
                    refine run_e rfl (fun K hK => ?_)
                    refine bx1 34 #[(.int .i64 0), (.int .i64 0)] HS ?_
                    intro g_a w1 hg_a HS
                    refine ge hK trivial (fun hHeld => ?_)
                    refine run_e rfl (fun K hK => ?_)
                    refine st1 HS 0 0 #[.int .i64 (f1 (s.extract 0 k)).1, .int .i64 (f1 (s.extract 0 k)).2] rfl rfl rfl rfl rfl ?_
                    intro w1 HS
                    refine goE hK trivial rfl (fun hHeld => ?_)
                    refine run_e rfl (fun K hK => ?_)
                    refine st1 HS 1 0 #[.int .i64 (f2 (s.extract k s.size)).1, .int .i64 (f2 (s.extract k s.size)).2] rfl rfl rfl rfl rfl ?_
                    intro w1 HS
                    refine goE hK trivial rfl (fun hHeld => ?_)
                    refine run_done ?_
                    have n_ := HS.out.sel [1, 0, 2, 3, 4] (by decide)
                    simp only [List.filterMap_cons, List.filterMap_nil, List.getElem?_cons_zero, List.getElem?_cons_succ] at n_
                    exact ⟨g_a, g_c, rfl, ⟨n_⟩⟩
                  · skip
                    refine run_e rfl (fun K hK => ?_)
                    refine bx1 34 #[(.int .i64 0), (.int .i64 0)] HS ?_
                    intro g_a w1 hg_a HS
                    refine ge hK trivial (fun hHeld => ?_)
                    refine run_e rfl (fun K hK => ?_)
                    refine gc Try.func65 (HAT2.out _ (s.extract k s.size) (HS.out.oldI HT2.out) (HS.out.oldI HV2.out) HX2.out hy2) rfl rfl ?_
                    rintro e_ w1 ⟨rfl, hb⟩
                    refine ⟨_, rfl, ?_⟩
                    replace HS := sB HS hb
                    refine ge hK trivial (fun hHeld => ?_)
                    refine run_e rfl (fun K hK => ?_)
                    refine st1 HS 0 0 #[.int .i64 (f1 (s.extract 0 k)).1, .int .i64 (f1 (s.extract 0 k)).2] rfl rfl rfl rfl rfl ?_
                    intro w1 HS
                    refine goE hK trivial rfl (fun hHeld => ?_)
                    refine run_e rfl (fun K hK => ?_)
                    refine st1 HS 1 0 #[.int .i64 (f2 (s.extract k s.size)).1, .int .i64 (f2 (s.extract k s.size)).2] rfl rfl rfl rfl rfl ?_
                    intro w1 HS
                    refine goE hK trivial rfl (fun hHeld => ?_)
                    refine run_done ?_
                    have n_ := HS.out.sel [1, 0, 2, 3, 4] (by decide)
                    simp only [List.filterMap_cons, List.filterMap_nil, List.getElem?_cons_zero, List.getElem?_cons_succ] at n_
                    exact ⟨g_a, g_c, rfl, ⟨n_⟩⟩
              · skip
                refine run_e rfl (fun K hK => ?_)
                refine bx1 34 #[(.int .i64 0), (.int .i64 0)] HS ?_
                intro g_a w1 hg_a HS
                refine ge hK trivial (fun hHeld => ?_)
                refine run_two ?_ ?_
                · skip
                  refine run_e rfl (fun K hK => ?_)
                  refine gc Try.func65 (HAT1.out _ (s.extract 0 k) (HS.out.oldI HT1.out) (HS.out.oldI HV1.out) HX1.out hy1) rfl rfl ?_
                  rintro e_ w1 ⟨rfl, hb⟩
                  refine ⟨_, rfl, ?_⟩
                  replace HS := sB HS hb
                  refine ge hK trivial (fun hHeld => ?_)
                  refine run_two ?_ ?_
                  · skip
                    refine run_e rfl (fun K hK => ?_)
                    refine gc Try.func65 (HAT2.out _ (s.extract k s.size) (HS.out.oldI HT2.out) (HS.out.oldI HV2.out) HX2.out hy2) rfl rfl ?_
                    rintro e_ w1 ⟨rfl, hb⟩
                    refine ⟨_, rfl, ?_⟩
                    replace HS := sB HS hb
                    refine ge hK trivial (fun hHeld => ?_)
                    refine run_e rfl (fun K hK => ?_)
                    refine bx1 34 #[(.int .i64 0), (.int .i64 0)] HS ?_
                    intro g_c w1 hg_c HS
                    refine ge hK trivial (fun hHeld => ?_)
                    refine run_e rfl (fun K hK => ?_)
                    refine st1 HS 1 0 #[.int .i64 (f1 (s.extract 0 k)).1, .int .i64 (f1 (s.extract 0 k)).2] rfl rfl rfl rfl rfl ?_
                    intro w1 HS
                    refine goE hK trivial rfl (fun hHeld => ?_)
                    refine run_e rfl (fun K hK => ?_)
                    refine st1 HS 0 0 #[.int .i64 (f2 (s.extract k s.size)).1, .int .i64 (f2 (s.extract k s.size)).2] rfl rfl rfl rfl rfl ?_
                    intro w1 HS
                    refine goE hK trivial rfl (fun hHeld => ?_)
                    refine run_done ?_
                    have n_ := HS.out.sel [0, 1, 2, 3, 4] (by decide)
                    simp only [List.filterMap_cons, List.filterMap_nil, List.getElem?_cons_zero, List.getElem?_cons_succ] at n_
                    exact ⟨g_a, g_c, rfl, ⟨n_⟩⟩
                  · skip
                    refine run_e rfl (fun K hK => ?_)
                    refine bx1 34 #[(.int .i64 0), (.int .i64 0)] HS ?_
                    intro g_c w1 hg_c HS
                    refine ge hK trivial (fun hHeld => ?_)
                    refine run_e rfl (fun K hK => ?_)
                    refine gc Try.func65 (HAT2.out _ (s.extract k s.size) (HS.out.oldI HT2.out) (HS.out.oldI HV2.out) HX2.out hy2) rfl rfl ?_
                    rintro e_ w1 ⟨rfl, hb⟩
                    refine ⟨_, rfl, ?_⟩
                    replace HS := sB HS hb
                    refine ge hK trivial (fun hHeld => ?_)
                    refine run_e rfl (fun K hK => ?_)
                    refine st1 HS 1 0 #[.int .i64 (f1 (s.extract 0 k)).1, .int .i64 (f1 (s.extract 0 k)).2] rfl rfl rfl rfl rfl ?_
                    intro w1 HS
                    refine goE hK trivial rfl (fun hHeld => ?_)
                    refine run_e rfl (fun K hK => ?_)
                    refine st1 HS 0 0 #[.int .i64 (f2 (s.extract k s.size)).1, .int .i64 (f2 (s.extract k s.size)).2] rfl rfl rfl rfl rfl ?_
                    intro w1 HS
                    refine goE hK trivial rfl (fun hHeld => ?_)
                    refine run_done ?_
                    have n_ := HS.out.sel [0, 1, 2, 3, 4] (by decide)
                    simp only [List.filterMap_cons, List.filterMap_nil, List.getElem?_cons_zero, List.getElem?_cons_succ] at n_
                    exact ⟨g_a, g_c, rfl, ⟨n_⟩⟩
                · skip
                  refine run_e rfl (fun K hK => ?_)
                  refine bx1 34 #[(.int .i64 0), (.int .i64 0)] HS ?_
                  intro g_c w1 hg_c HS
                  refine ge hK trivial (fun hHeld => ?_)
                  refine run_e rfl (fun K hK => ?_)
                  refine gc Try.func65 (HAT1.out _ (s.extract 0 k) (HS.out.oldI HT1.out) (HS.out.oldI HV1.out) HX1.out hy1) rfl rfl ?_
                  rintro e_ w1 ⟨rfl, hb⟩
                  refine ⟨_, rfl, ?_⟩
                  replace HS := sB HS hb
                  refine ge hK trivial (fun hHeld => ?_)
                  refine run_e rfl (fun K hK => ?_)
                  refine gc Try.func65 (HAT2.out _ (s.extract k s.size) (HS.out.oldI HT2.out) (HS.out.oldI HV2.out) HX2.out hy2) rfl rfl ?_
                  rintro e_ w1 ⟨rfl, hb⟩
                  refine ⟨_, rfl, ?_⟩
                  replace HS := sB HS hb
                  refine ge hK trivial (fun hHeld => ?_)
                  refine run_e rfl (fun K hK => ?_)
                  refine st1 HS 1 0 #[.int .i64 (f1 (s.extract 0 k)).1, .int .i64 (f1 (s.extract 0 k)).2] rfl rfl rfl rfl rfl ?_
                  intro w1 HS
                  refine goE hK trivial rfl (fun hHeld => ?_)
                  refine run_e rfl (fun K hK => ?_)
                  refine st1 HS 0 0 #[.int .i64 (f2 (s.extract k s.size)).1, .int .i64 (f2 (s.extract k s.size)).2] rfl rfl rfl rfl rfl ?_
                  intro w1 HS
                  refine goE hK trivial rfl (fun hHeld => ?_)
                  refine run_done ?_
                  have n_ := HS.out.sel [0, 1, 2, 3, 4] (by decide)
                  simp only [List.filterMap_cons, List.filterMap_nil, List.getElem?_cons_zero, List.getElem?_cons_succ] at n_
                  exact ⟨g_a, g_c, rfl, ⟨n_⟩⟩
              · skip
                refine run_e rfl (fun K hK => ?_)
                refine bx1 34 #[(.int .i64 0), (.int .i64 0)] HS ?_
                intro g_c w1 hg_c HS
                refine ge hK trivial (fun hHeld => ?_)
                refine run_two ?_ ?_
                · skip
                  refine run_e rfl (fun K hK => ?_)
                  refine gc Try.func65 (HAT1.out _ (s.extract 0 k) (HS.out.oldI HT1.out) (HS.out.oldI HV1.out) HX1.out hy1) rfl rfl ?_
                  rintro e_ w1 ⟨rfl, hb⟩
                  refine ⟨_, rfl, ?_⟩
                  replace HS := sB HS hb
                  refine ge hK trivial (fun hHeld => ?_)
                  refine run_two ?_ ?_
                  · skip
                    refine run_e rfl (fun K hK => ?_)
                    refine gc Try.func65 (HAT2.out _ (s.extract k s.size) (HS.out.oldI HT2.out) (HS.out.oldI HV2.out) HX2.out hy2) rfl rfl ?_
                    rintro e_ w1 ⟨rfl, hb⟩
                    refine ⟨_, rfl, ?_⟩
                    replace HS := sB HS hb
                    refine ge hK trivial (fun hHeld => ?_)
                    refine run_e rfl (fun K hK => ?_)
                    refine bx1 34 #[(.int .i64 0), (.int .i64 0)] HS ?_
                    intro g_a w1 hg_a HS
                    refine ge hK trivial (fun hHeld => ?_)
                    refine run_e rfl (fun K hK => ?_)
                    refine st1 HS 0 0 #[.int .i64 (f1 (s.extract 0 k)).1, .int .i64 (f1 (s.extract 0 k)).2] rfl rfl rfl rfl rfl ?_
                    intro w1 HS
                    refine goE hK trivial rfl (fun hHeld => ?_)
                    refine run_e rfl (fun K hK => ?_)
                    refine st1 HS 1 0 #[.int .i64 (f2 (s.extract k s.size)).1, .int .i64 (f2 (s.extract k s.size)).2] rfl rfl rfl rfl rfl ?_
                    intro w1 HS
                    refine goE hK trivial rfl (fun hHeld => ?_)
                    refine run_done ?_
                    have n_ := HS.out.sel [1, 0, 2, 3, 4] (by decide)
                    simp only [List.filterMap_cons, List.filterMap_nil, List.getElem?_cons_zero, List.getElem?_cons_succ] at n_
                    exact ⟨g_a, g_c, rfl, ⟨n_⟩⟩
                  · skip
                    refine run_e rfl (fun K hK => ?_)
                    refine bx1 34 #[(.int .i64 0), (.int .i64 0)] HS ?_
                    intro g_a w1 hg_a HS
                    refine ge hK trivial (fun hHeld => ?_)
                    refine run_e rfl (fun K hK => ?_)
                    refine gc Try.func65 (HAT2.out _ (s.extract k s.size) (HS.out.oldI HT2.out) (HS.out.oldI HV2.out) HX2.out hy2) rfl rfl ?_
                    rintro e_ w1 ⟨rfl, hb⟩
                    refine ⟨_, rfl, ?_⟩
                    replace HS := sB HS hb
                    refine ge hK trivial (fun hHeld => ?_)
                    refine run_e rfl (fun K hK => ?_)
                    refine st1 HS 0 0 #[.int .i64 (f1 (s.extract 0 k)).1, .int .i64 (f1 (s.extract 0 k)).2] rfl rfl rfl rfl rfl ?_
                    intro w1 HS
                    refine goE hK trivial rfl (fun hHeld => ?_)
                    refine run_e rfl (fun K hK => ?_)
                    refine st1 HS 1 0 #[.int .i64 (f2 (s.extract k s.size)).1, .int .i64 (f2 (s.extract k s.size)).2] rfl rfl rfl rfl rfl ?_
                    intro w1 HS
                    refine goE hK trivial rfl (fun hHeld => ?_)
                    refine run_done ?_
                    have n_ := HS.out.sel [1, 0, 2, 3, 4] (by decide)
                    simp only [List.filterMap_cons, List.filterMap_nil, List.getElem?_cons_zero, List.getElem?_cons_succ] at n_
                    exact ⟨g_a, g_c, rfl, ⟨n_⟩⟩
                · skip
                  refine run_e rfl (fun K hK => ?_)
                  refine bx1 34 #[(.int .i64 0), (.int .i64 0)] HS ?_
                  intro g_a w1 hg_a HS
                  refine ge hK trivial (fun hHeld => ?_)
                  refine run_e rfl (fun K hK => ?_)
                  refine gc Try.func65 (HAT1.out _ (s.extract 0 k) (HS.out.oldI HT1.out) (HS.out.oldI HV1.out) HX1.out hy1) rfl rfl ?_
                  rintro e_ w1 ⟨rfl, hb⟩
                  refine ⟨_, rfl, ?_⟩
                  replace HS := sB HS hb
                  refine ge hK trivial (fun hHeld => ?_)
                  refine run_e rfl (fun K hK => ?_)
                  refine gc Try.func65 (HAT2.out _ (s.extract k s.size) (HS.out.oldI HT2.out) (HS.out.oldI HV2.out) HX2.out hy2) rfl rfl ?_
                  rintro e_ w1 ⟨rfl, hb⟩
                  refine ⟨_, rfl, ?_⟩
                  replace HS := sB HS hb
                  refine ge hK trivial (fun hHeld => ?_)
                  refine run_e rfl (fun K hK => ?_)
                  refine st1 HS 0 0 #[.int .i64 (f1 (s.extract 0 k)).1, .int .i64 (f1 (s.extract 0 k)).2] rfl rfl rfl rfl rfl ?_
                  intro w1 HS
                  refine goE hK trivial rfl (fun hHeld => ?_)
                  refine run_e rfl (fun K hK => ?_)
                  refine st1 HS 1 0 #[.int .i64 (f2 (s.extract k s.size)).1, .int .i64 (f2 (s.extract k s.size)).2] rfl rfl rfl rfl rfl ?_
                  intro w1 HS
                  refine goE hK trivial rfl (fun hHeld => ?_)
                  refine run_done ?_
                  have n_ := HS.out.sel [1, 0, 2, 3, 4] (by decide)
                  simp only [List.filterMap_cons, List.filterMap_nil, List.getElem?_cons_zero, List.getElem?_cons_succ] at n_
                  exact ⟨g_a, g_c, rfl, ⟨n_⟩⟩
            clear HS
            rintro a_ w1 ⟨g_a, g_c, rfl, HS⟩
            by_cases hz1 : (f1 (s.extract 0 k)).1 = 0
            · have hb1 : ((f1 (s.extract 0 k)).1 != 0) = false := by rw [hz1]; rfl
              have HZ := Aside0.mk (cutU_skip (f := f1) (g := f2) (s := s) (k := k) (.inl hz1))
              clear hz1
              have f1_ := HS.out.c 1 0 (v := .int .i64 (f1 (s.extract 0 k)).1) rfl rfl
              go_wp2
              replace HS : Aside0 (Mod _ _ _ [_, _, _]) := sX HS [2, 3, 4]
              go_roundw
              case rel => exact ⟨k + 1, H', by omega, by go_num, ⟨by rw [HZ.out]; exact HM2.out⟩, HGd2, HS⟩
              case measure => simp [intOf]; omega
            · have hb1 : ((f1 (s.extract 0 k)).1 != 0) = true := by simpa using hz1
              by_cases hz2 : (f2 (s.extract k s.size)).1 = 0
              · have hb2 : ((f2 (s.extract k s.size)).1 != 0) = false := by rw [hz2]; rfl
                have HZ := Aside0.mk (cutU_skip (f := f1) (g := f2) (s := s) (k := k) (.inr hz2))
                clear hz1 hz2
                have f1_ := HS.out.c 1 0 (v := .int .i64 (f1 (s.extract 0 k)).1) rfl rfl
                have f2_ := HS.out.c 0 0 (v := .int .i64 (f2 (s.extract k s.size)).1) rfl rfl
                go_wp2
                replace HS : Aside0 (Mod _ _ _ [_, _, _]) := sX HS [2, 3, 4]
                go_roundw
                case rel => exact ⟨k + 1, H', by omega, by go_num, ⟨by rw [HZ.out]; exact HM2.out⟩, HGd2, HS⟩
                case measure => simp [intOf]; omega
              · have hb2 : ((f2 (s.extract k s.size)).1 != 0) = true := by simpa using hz2
                have HZ := Aside0.mk (cutU_take (f := f1) (g := f2) (s := s) (k := k) hz1 hz2)
                clear hz1 hz2
                have f1_ := HS.out.c 1 0 (v := .int .i64 (f1 (s.extract 0 k)).1) rfl rfl
                have f2_ := HS.out.c 0 0 (v := .int .i64 (f2 (s.extract k s.size)).1) rfl rfl
                have f3_ := HS.out.c 1 1 (v := .int .i64 (f1 (s.extract 0 k)).2) rfl rfl
                have f4_ := HS.out.c 0 1 (v := .int .i64 (f2 (s.extract k s.size)).2) rfl rfl
                go_wp2_with (first | (go_at_call 116; refine (HAD.out g' v' H' s (f1 (s.extract 0 k)) (f2 (s.extract k s.size)) _ (HS.out.at (i := 3) rfl) (HS.out.at (i := 4) rfl) HSW.out hw2 (HGd2.out _) (HF1.out _) (HF2.out _)).mono ?_; rintro e_ w1 ⟨rfl, hs⟩; replace HS : Aside0 (Mod _ _ _ [_, _, _, _, _]) := sM2 HS 3 4 [0, 1, 2] rfl rfl hs; clear hs f1_ f2_ f3_ f4_))
                go_roundw
                case rel => exact ⟨k + 1, addT (H'.1, H'.2) (s, mul (f1 (s.extract 0 k)) (f2 (s.extract k s.size))), by omega, by go_num, ⟨by rw [HZ.out]; unfold addsT; rw [List.foldl_append, show List.foldl addT H (cutU f1 f2 s k) = H' from HM2.out.symm]; rfl⟩, ⟨addT_good HGd2.out fun a ha => mul_fr ha⟩, sX HS [4, 0, 1]⟩
                case measure => simp [intOf]; omega
          · obtain rfl : k = s.size + 1 := by omega
            go_wp2
            go_roundw
            case rel => exact ⟨i + 1, H', by omega, by go_num, ⟨by rw [HTK.out, timesU_snoc]; unfold addsT; rw [List.foldl_append]; exact (show H' = addsT H (cutU f1 f2 s (s.size + 1)) from HM2.out).trans (by rw [HM.out]; rfl)⟩, HGd2, sX HS [0, 1, 2]⟩
            case measure => simp [intOf]; omega
      · obtain rfl : i = N := by omega
        go_wp2
        go_ret
        obtain rfl := HM.out
        exact ⟨g', v', rfl, HEND.out ▸ HS.out.sel [1, 2] (by decide)⟩
end Go.Proofs.Ytibjkjhpfmmjoaa.H



namespace Go.Proofs.Ytibjkjhpfmmjoaa.M
theorem rel_self {d n : Nat} {l : Ts} (h : isTs d n l = true) : Rel d n (some l) (co l, false) := .inr ⟨l, rfl, rfl, h, fun _ _ _ => rfl⟩
theorem unit_co : co unitT = upd (fun _ => (0, 1)) eps (1, 1) := by
  funext w
  rw [co_cons]
  unfold upd
  by_cases h : w = eps
  · subst h; rfl
  · rw [if_neg (fun e => h e.symm), if_neg h]; rfl
end Go.Proofs.Ytibjkjhpfmmjoaa.M
namespace Go.Proofs.Ytibjkjhpfmmjoaa.H
open Go.RowKit Go.Proofs.YtibjkjhpfmmjoaaW.PrintWords Go.Proofs.YtibjkjhpfmmjoaaW.PrintLast Go.Proofs.YtibjkjhpfmmjoaaW.PrintMore Go.Proofs.Ytibjkjhpfmmjoaa.M
attribute [local go_sem] max2_int min2_int max_two min_two max_three min_three max_four min_four
set_option linter.unusedVariables false
set_option linter.unusedSimpArgs false
set_option maxRecDepth 100000
def RetT (w : World) (d n : Nat) (o : Option Ts) (e : Ending) (w' : World) : Prop := ∃ g v F, e = .returned (.pointer (some ⟨g, 0, none⟩)) ∧ good F.1 ∧ Rel d n o F ∧ Sep w w' [tS g v d n (nW d n) F.2, tV v d n F.1]
def TabI (W : World) (g v d n : Nat) (F : Tb) (o : Option Ts) : Prop := good F.1 ∧ Rel d n o F ∧ (tS g v d n (nW d n) F.2).I W ∧ (tV v d n F.1).I W
variable {w : World} {d n g v g1 v1 g2 v2 : Nat} {F F1 F2 : Tb} {o o1 o2 : Option Ts}
theorem lev9 (hl : lev d n = true) : d ≤ 9 := by have := lev_bd hl; omega
theorem tabOpen (A : Option Addr) (c : Nat) (l : Ts) (w : World) (hl : lev d n = true) (hr : KT.C w A l.length l) (hts : isTs d n l = true) : Calls Try.prog 64 #[.agg #[.int .i64 (d : Int), .int .i64 (n : Int), .slice A l.length c]] w (RetT w d n (some l)) :=
  (implOpen d n A c l w hl hr hts).mono fun e w' h => by obtain ⟨g, v, he, hs⟩ := h; exact ⟨g, v, (co l, false), he, good_co hts, rel_self hts, hs⟩
theorem tabUnit (hl : lev d n = true) (h : TabI w g v d n F o) : Calls Try.prog 80 #[.pointer (some ⟨g, 0, none⟩)] w (RetT w d n (some unitT)) :=
  (implUnit g v d n (nW d n) F.2 w hl h.2.2.1).mono fun e w' h => by obtain ⟨g, v, he, hs⟩ := h; exact ⟨g, v, (co unitT, false), he, good_co (unit_ts d n), rel_self (unit_ts d n), by rw [unit_co]; exact hs⟩
theorem tabSum (hl : lev d n = true) (h1 : TabI w g1 v1 d n F1 o1) (h2 : TabI w g2 v2 d n F2 o2) : Calls Try.prog 98 #[.pointer (some ⟨g1, 0, none⟩), .pointer (some ⟨g2, 0, none⟩)] w (RetT w d n (two sumS o1 o2)) :=
  (implSum g1 v1 g2 v2 d n F1.2 F2.2 F1.1 F2.1 w hl h1.2.2.1 h1.2.2.2 h2.2.2.1 h2.2.2.2 h1.1 h2.1).mono fun e w' h => by obtain ⟨g, v, he, hs⟩ := h; exact ⟨g, v, _, he, mapT_good (fun s c h => add_fr h) _ _, sum_relT (lev9 hl) h1.2.1 h2.2.1, hs⟩
theorem tabScaled (hl : lev d n = true) (h : TabI w g v d n F o) {a : Fr} (ha : fr a = true) : Calls Try.prog 123 #[.pointer (some ⟨g, 0, none⟩), .agg #[.int .i64 a.1, .int .i64 a.2]] w (RetT w d n (o.bind fun x => scS x a)) :=
  (implScaled g v d n F.2 F.1 a w hl h.2.2.1 h.2.2.2 h.1 ha).mono fun e w' hh => by obtain ⟨g, v, he, hs⟩ := hh; exact ⟨g, v, _, he, mapT_good (fun s c h => mul_fr h) _ _, scale_relT (lev9 hl) h.2.1 ha, hs⟩
theorem tabTold (hl : lev d n = true) (h : TabI w g v d n F o) : Calls Try.prog 69 #[.pointer (some ⟨g, 0, none⟩)] w (RetS w (resO d n o)) :=
  (Rel.told (lev9 hl) h.1 h.2.1) ▸ implTold g v d n F.2 F.1 w hl h.2.2.1 h.2.2.2
theorem TabI.old {w W : World} {d n g v : Nat} {F : Tb} {o : Option Ts} {L : List As} (h : TabI w g v d n F o) (HS : Mod w W No L) : TabI W g v d n F o := ⟨h.1, h.2.1, HS.oldI h.2.2.1, HS.oldI h.2.2.2⟩
end Go.Proofs.Ytibjkjhpfmmjoaa.H
namespace Go.Proofs.Ytibjkjhpfmmjoaa.H
open Go.RowKit Go.Proofs.YtibjkjhpfmmjoaaW.PrintWords Go.Proofs.YtibjkjhpfmmjoaaW.PrintLast Go.Proofs.YtibjkjhpfmmjoaaW.PrintMore Go.Proofs.Ytibjkjhpfmmjoaa.M
variable {w : World} {d n g1 v1 g2 v2 : Nat} {F1 F2 : Tb} {o1 o2 : Option Ts}
theorem tabTimes (hl : lev d n = true) (h1 : TabI w g1 v1 d n F1 o1) (h2 : TabI w g2 v2 d n F2 o2) : Calls Try.prog 68 #[.pointer (some ⟨g1, 0, none⟩), .pointer (some ⟨g2, 0, none⟩)] w (RetT w d n (two (mulS d n) o1 o2)) :=
  (implTimesTab g1 v1 g2 v2 d n F1.2 F2.2 F1.1 F2.1 w hl h1.2.2.1 h1.2.2.2 h2.2.2.1 h2.2.2.2 h1.1 h2.1).mono fun e w' h => by obtain ⟨g, v, he, hs⟩ := h; exact ⟨g, v, _, he, timesT_good, times_relT (lev9 hl) h1.2.1 h2.2.1, hs⟩
end Go.Proofs.Ytibjkjhpfmmjoaa.H


namespace Go.Proofs.Ytibjkjhpfmmjoaa.M
def codeR (d n : Int) (l : Ts) (d2 n2 : Int) (l2 : Ts) : Int := if isS d n l = true then if isS d2 n2 l2 = true then if d = d2 ∧ n = n2 then 0 else 2 else 1 else 1
theorem codeR_1 {d n : Int} {l : Ts} {d2 n2 : Int} {l2 : Ts} (h : isS d n l = false) : codeR d n l d2 n2 l2 = 1 := by unfold codeR; rw [if_neg (by rw [h]; decide)]
theorem codeR_2 {d n : Int} {l : Ts} {d2 n2 : Int} {l2 : Ts} (h : isS d n l = true) (h2 : isS d2 n2 l2 = false) : codeR d n l d2 n2 l2 = 1 := by unfold codeR; rw [if_pos h, if_neg (by rw [h2]; decide)]
theorem codeR_3 {d n : Int} {l : Ts} {d2 n2 : Int} {l2 : Ts} (h : isS d n l = true) (h2 : isS d2 n2 l2 = true) (h3 : decide (d = d2 ∧ n = n2) = false) : codeR d n l d2 n2 l2 = 2 := by unfold codeR; rw [if_pos h, if_pos h2, if_neg (of_decide_eq_false h3)]
theorem codeR_4 {d n : Int} {l : Ts} {d2 n2 : Int} {l2 : Ts} (h : isS d n l = true) (h2 : isS d2 n2 l2 = true) (h3 : decide (d = d2 ∧ n = n2) = true) : codeR d n l d2 n2 l2 = 0 := by unfold codeR; rw [if_pos h, if_pos h2, if_pos (of_decide_eq_true h3)]
theorem codeR_zero {d n : Int} {l : Ts} {d2 n2 : Int} {l2 : Ts} (h : codeR d n l d2 n2 l2 = 0) : isS d n l = true ∧ isS d2 n2 l2 = true ∧ d = d2 ∧ n = n2 := by
  unfold codeR at h
  split at h
  · rename_i h1
    split at h
    · rename_i h2
      split at h
      · rename_i h3; exact ⟨h1, h2, h3.1, h3.2⟩
      · cases h
    · cases h
  · cases h
end Go.Proofs.Ytibjkjhpfmmjoaa.M
namespace Go.Proofs.Ytibjkjhpfmmjoaa.H
open Go.RowKit Go.Proofs.YtibjkjhpfmmjoaaW.PrintWords Go.Proofs.YtibjkjhpfmmjoaaW.PrintLast Go.Proofs.YtibjkjhpfmmjoaaW.PrintMore Go.Proofs.Ytibjkjhpfmmjoaa.M
attribute [local go_sem] max2_int min2_int max_two min_two max_three min_three max_four min_four
set_option linter.unusedVariables false
set_option linter.unusedSimpArgs false
set_option maxRecDepth 100000
theorem stp_bs {P : Program} {ops : Array Oper} {o : Oper} {a : Act} {Q : Exit → Act → World → Prop} {Kc : Act → World → Prop} {w W : World} {S : Nat → Prop} {L : List As} (hw : Region.wanted o (yielded ops a.tmps) = true) {cs : Array Value} {t : TypeId} {m : Nat} (HS : Aside0 (Mod w W S L))
    (hrun : (execOp a.eval o).run P W = .ok (.value (.slice (some ⟨W.heap.size, 0, none⟩) m m)) (W.alloc (.cells cs t (0, 0))))
    (h : ∀ g w1, w.heap.size ≤ g → Aside0 (Mod w w1 S (bx g t cs :: L)) → Kc (a.put o.dst (.slice (some ⟨g, 0, none⟩) m m)) w1) : Stp P ops Q o a W Kc := by
  unfold Stp
  rw [if_pos hw]
  unfold Oper.wp
  rw [hrun]
  exact h _ _ HS.out.size ⟨HS.out.new (A := [bx W.heap.size t cs]) (Sep.one (below_alloc (Below.refl _ _) _) (blk_new W _) (fun k hk => by rw [show k = W.heap.size from hk]; exact Nat.le_refl _))⟩
theorem specAlike (d n d2 n2 : Int) (A A2 : Option Addr) (m c m2 c2 : Nat) (w : World) : Calls Try.prog 117 #[.agg #[.int .i64 d, .int .i64 n, .slice A m c], .agg #[.int .i64 d2, .int .i64 n2, .slice A2 m2 c2]] w fun e w' => e = .returned (.bool (decide (d = d2 ∧ n = n2))) ∧ Below w.heap.size w w' := by
  have HS := Aside0.mk (Sep.refl w)
  by_cases h1 : d = d2
  · subst h1
    have hb : (d == d) = true := by simp
    by_cases h2 : n = n2
    · subst h2
      have hb2 : (n == n) = true := by simp
      go_enter Try.func117, Try.ntmps117
      go_wp2_with (first | ((with_reducible refine gate_dst (N := 2) rfl ?_); refine bxL 26 #[.int .i64 d, .int .i64 n, .slice A m c] HS ?_; clear HS; intro g_x w1 hg_x HS) | ((with_reducible refine gate_dst (N := 3) rfl ?_); refine bxL 26 #[.int .i64 d, .int .i64 n, .slice A2 m2 c2] HS ?_; clear HS; intro g_y w1 hg_y HS; have f1_ := HS.out.c 1 0 (v := .int .i64 d) rfl rfl; have f2_ := HS.out.c 0 0 (v := .int .i64 d) rfl rfl; have f3_ := HS.out.c 1 1 (v := .int .i64 n) rfl rfl; have f4_ := HS.out.c 0 1 (v := .int .i64 n) rfl rfl))
      go_ret
      exact ⟨ret_bool (by simp), HS.out.below⟩
    · have hb2 : (n == n2) = false := by simpa using h2
      go_enter Try.func117, Try.ntmps117
      go_wp2_with (first | ((with_reducible refine gate_dst (N := 2) rfl ?_); refine bxL 26 #[.int .i64 d, .int .i64 n, .slice A m c] HS ?_; clear HS; intro g_x w1 hg_x HS) | ((with_reducible refine gate_dst (N := 3) rfl ?_); refine bxL 26 #[.int .i64 d, .int .i64 n2, .slice A2 m2 c2] HS ?_; clear HS; intro g_y w1 hg_y HS; have f1_ := HS.out.c 1 0 (v := .int .i64 d) rfl rfl; have f2_ := HS.out.c 0 0 (v := .int .i64 d) rfl rfl; have f3_ := HS.out.c 1 1 (v := .int .i64 n) rfl rfl; have f4_ := HS.out.c 0 1 (v := .int .i64 n2) rfl rfl))
      go_ret
      exact ⟨ret_bool (by simp [h2]), HS.out.below⟩
  · have hb : (d == d2) = false := by simpa using h1
    go_enter Try.func117, Try.ntmps117
    go_wp2_with (first | ((with_reducible refine gate_dst (N := 2) rfl ?_); refine bxL 26 #[.int .i64 d, .int .i64 n, .slice A m c] HS ?_; clear HS; intro g_x w1 hg_x HS) | ((with_reducible refine gate_dst (N := 3) rfl ?_); refine bxL 26 #[.int .i64 d2, .int .i64 n2, .slice A2 m2 c2] HS ?_; clear HS; intro g_y w1 hg_y HS; have f1_ := HS.out.c 1 0 (v := .int .i64 d) rfl rfl; have f2_ := HS.out.c 0 0 (v := .int .i64 d2) rfl rfl))
    go_ret
    exact ⟨ret_bool (by simp [h1]), HS.out.below⟩
theorem implAlike (d n d2 n2 : Int) (A A2 : Option Addr) (m c m2 c2 : Nat) (w : World) : Calls Try.prog 113 #[.agg #[.int .i64 d, .int .i64 n, .slice A m c], .agg #[.int .i64 d2, .int .i64 n2, .slice A2 m2 c2]] w fun e w' => e = .returned (.bool (decide (d = d2 ∧ n = n2))) ∧ Below w.heap.size w w' := by
  have HS := Aside0.mk (Sep.refl w)
  by_cases h1 : d = d2
  · subst h1
    have hb : (d == d) = true := by simp
    by_cases h2 : n = n2
    · subst h2
      have hb2 : (n == n) = true := by simp
      go_enter Try.func113, Try.ntmps113
      go_wp2_with (first | ((with_reducible refine gate_dst (N := 2) rfl ?_); refine bxL 26 #[.int .i64 d, .int .i64 n, .slice A m c] HS ?_; clear HS; intro g_x w1 hg_x HS) | ((with_reducible refine gate_dst (N := 3) rfl ?_); refine bxL 26 #[.int .i64 d, .int .i64 n, .slice A2 m2 c2] HS ?_; clear HS; intro g_y w1 hg_y HS; have f1_ := HS.out.c 1 0 (v := .int .i64 d) rfl rfl; have f2_ := HS.out.c 0 0 (v := .int .i64 d) rfl rfl; have f3_ := HS.out.c 1 1 (v := .int .i64 n) rfl rfl; have f4_ := HS.out.c 0 1 (v := .int .i64 n) rfl rfl))
      go_ret
      exact ⟨ret_bool (by simp), HS.out.below⟩
    · have hb2 : (n == n2) = false := by simpa using h2
      go_enter Try.func113, Try.ntmps113
      go_wp2_with (first | ((with_reducible refine gate_dst (N := 2) rfl ?_); refine bxL 26 #[.int .i64 d, .int .i64 n, .slice A m c] HS ?_; clear HS; intro g_x w1 hg_x HS) | ((with_reducible refine gate_dst (N := 3) rfl ?_); refine bxL 26 #[.int .i64 d, .int .i64 n2, .slice A2 m2 c2] HS ?_; clear HS; intro g_y w1 hg_y HS; have f1_ := HS.out.c 1 0 (v := .int .i64 d) rfl rfl; have f2_ := HS.out.c 0 0 (v := .int .i64 d) rfl rfl; have f3_ := HS.out.c 1 1 (v := .int .i64 n) rfl rfl; have f4_ := HS.out.c 0 1 (v := .int .i64 n2) rfl rfl))
      go_ret
      exact ⟨ret_bool (by simp [h2]), HS.out.below⟩
  · have hb : (d == d2) = false := by simpa using h1
    go_enter Try.func113, Try.ntmps113
    go_wp2_with (first | ((with_reducible refine gate_dst (N := 2) rfl ?_); refine bxL 26 #[.int .i64 d, .int .i64 n, .slice A m c] HS ?_; clear HS; intro g_x w1 hg_x HS) | ((with_reducible refine gate_dst (N := 3) rfl ?_); refine bxL 26 #[.int .i64 d2, .int .i64 n2, .slice A2 m2 c2] HS ?_; clear HS; intro g_y w1 hg_y HS; have f1_ := HS.out.c 1 0 (v := .int .i64 d) rfl rfl; have f2_ := HS.out.c 0 0 (v := .int .i64 d2) rfl rfl))
    go_ret
    exact ⟨ret_bool (by simp [h1]), HS.out.below⟩
set_option maxHeartbeats 8000000 in
theorem specCode (d n : Int) (A : Option Addr) (c : Nat) (l : Ts) (d2 n2 : Int) (A2 : Option Addr) (c2 : Nat) (l2 : Ts) (q : Nat) (w : World) (hr : KT.C w A l.length l) (hc : l.length ≤ c) (hb : bnd l = true) (hr2 : KT.C w A2 l2.length l2) (hc2 : l2.length ≤ c2) (hb2 : bnd l2 = true)
    (hq : (bx q 26 #[.int .i64 d2, .int .i64 n2, .slice A2 l2.length c2]).I w) :
    Calls Try.prog 70 #[.agg #[.int .i64 d, .int .i64 n, .slice A l.length c], .slice (some ⟨q, 0, none⟩) 1 1] w fun e w' => e = .returned (.int .i64 (codeR d n l d2 n2 l2)) ∧ Below w.heap.size w w' := by
  have HR := Aside0.mk hr
  have HB := Aside0.mk hb
  have HR2 := Aside0.mk hr2
  have HB2 := Aside0.mk hb2
  have HQ := Aside0.mk hq
  have HS := Aside0.mk (Sep.refl w)
  clear hr hb hr2 hb2 hq
  cases h : isS d n l with
  | false =>
    rw [codeR_1 h]
    go_enter Try.func70, Try.ntmps70
    go_wp2_with (first | ((with_reducible refine gate_dst (N := 2) rfl ?_); refine bxL 26 #[.int .i64 d, .int .i64 n, .slice A l.length c] HS ?_; clear HS; intro g_x w1 hg_x HS; have f1_ := HS.out.c 0 0 (v := .int .i64 d) rfl rfl; have f2_ := HS.out.c 0 1 (v := .int .i64 n) rfl rfl; have f3_ := HS.out.c 0 2 (v := .slice A l.length c) rfl rfl) | (go_at_call 54; refine (specIs d n A c l _ (HS.out.oldC HR.out) hc HB.out).mono ?_; rintro e_ w1 ⟨rfl, hb⟩; replace HS := sB HS hb; clear hb f1_ f2_ f3_))
    go_ret
    exact ⟨rfl, HS.out.below⟩
  | true =>
    go_enter Try.func70, Try.ntmps70
    go_wp2_with (first | ((with_reducible refine gate_dst (N := 2) rfl ?_); refine bxL 26 #[.int .i64 d, .int .i64 n, .slice A l.length c] HS ?_; clear HS; intro g_x w1 hg_x HS; have f1_ := HS.out.c 0 0 (v := .int .i64 d) rfl rfl; have f2_ := HS.out.c 0 1 (v := .int .i64 n) rfl rfl; have f3_ := HS.out.c 0 2 (v := .slice A l.length c) rfl rfl) | (go_at_call 54; refine (specIs d n A c l _ (HS.out.oldC HR.out) hc HB.out).mono ?_; rintro e_ w1 ⟨rfl, hb⟩; replace HS := sB HS hb; clear hb f1_ f2_ f3_))
    go_loopw [5] (fun v w' => (v = .int .i64 0 ∨ v = .int .i64 1 ∧ Aside0 (isS d2 n2 l2 = true)) ∧ Aside0 (Mod w w' No [bx g_x 26 #[.int .i64 d, .int .i64 n, .slice A l.length c]])) (fun v _ => 1 - (intOf v).toNat)
    case atStart => exact ⟨.inl rfl, HS⟩
    case round =>
      clear HS
      obtain ⟨hv, HS⟩ := hrel
      rcases hv with rfl | ⟨rfl, H2⟩
      · skip
        cases h2 : isS d2 n2 l2 with
        | false =>
          have f1_ := bx_c (HS.out.oldI HQ.out) 0 rfl
          have f2_ := bx_c (HS.out.oldI HQ.out) 1 rfl
          have f3_ := bx_c (HS.out.oldI HQ.out) 2 rfl
          go_wp2_with (first | (go_at_call 54; refine (specIs d2 n2 A2 c2 l2 _ (HS.out.oldC HR2.out) hc2 HB2.out).mono ?_; rintro e_ w1 ⟨rfl, hb⟩; replace HS := sB HS hb; clear hb f1_ f2_ f3_))
          go_ret
          exact ⟨by rw [codeR_2 h h2]; rfl, HS.out.below⟩
        | true =>
          have f1_ := bx_c (HS.out.oldI HQ.out) 0 rfl
          have f2_ := bx_c (HS.out.oldI HQ.out) 1 rfl
          have f3_ := bx_c (HS.out.oldI HQ.out) 2 rfl
          go_wp2_with (first | (go_at_call 54; refine (specIs d2 n2 A2 c2 l2 _ (HS.out.oldC HR2.out) hc2 HB2.out).mono ?_; rintro e_ w1 ⟨rfl, hb⟩; replace HS := sB HS hb; clear hb f1_ f2_ f3_))
          go_roundw
          case rel => exact ⟨.inr ⟨by go_num, ⟨by first | trivial | exact h2⟩⟩, HS⟩
          case measure => simp [intOf]
      · have h2 := H2.out
        go_wp2
        go_loopw [6] (fun v w' => (v = .int .i64 0 ∨ v = .int .i64 1 ∧ Aside0 (decide (d = d2 ∧ n = n2) = true)) ∧ Aside0 (Mod w w' No [bx g_x 26 #[.int .i64 d, .int .i64 n, .slice A l.length c]])) (fun v _ => 1 - (intOf v).toNat)
        case atStart => exact ⟨.inl rfl, HS⟩
        case round =>
          clear HS
          obtain ⟨hv, HS⟩ := hrel
          rcases hv with rfl | ⟨rfl, H3⟩
          · skip
            cases h3 : decide (d = d2 ∧ n = n2) with
            | false =>
              go_wp2
              replace HS := sD HS
              refine ps (.p 1 (.p 2 (.p 3 (.t 0 (.t 4 (.d 5 (.p 6 .done))))))) (fun w' => w'.cell? ⟨g_x, 0, none⟩ = some (.int .i64 d) ∧ w'.cell? ⟨g_x, 1, none⟩ = some (.int .i64 n) ∧ w'.cell? ⟨g_x, 2, none⟩ = some (.slice A l.length c) ∧ w'.cell? ⟨q, 0, none⟩ = some (.int .i64 d2) ∧ w'.cell? ⟨q, 1, none⟩ = some (.int .i64 n2) ∧ w'.cell? ⟨q, 2, none⟩ = some (.slice A2 l2.length c2)) [5] ⟨HS.out.c 0 0 (v := .int .i64 d) rfl rfl, HS.out.c 0 1 (v := .int .i64 n) rfl rfl, HS.out.c 0 2 (v := .slice A l.length c) rfl rfl, bx_c (HS.out.oldI HQ.out) 0 rfl, bx_c (HS.out.oldI HQ.out) 1 rfl, bx_c (HS.out.oldI HQ.out) 2 rfl⟩ (fun hHeld => ?_)
              repeat (first | ((with_reducible refine gate_p ?_); refine rp rfl rfl ?_) | ((with_reducible refine gate_t ?_); refine rt rfl rfl hHeld ?_))
              refine run_d rfl (fun K hK => ?_)
              refine gc Try.func117 ((h3 ▸ specAlike d n d2 n2 A A2 l.length c l2.length c2 _ : Calls Try.prog 117 #[.agg #[.int .i64 d, .int .i64 n, .slice A l.length c], .agg #[.int .i64 d2, .int .i64 n2, .slice A2 l2.length c2]] _ fun e w' => e = .returned (.bool false) ∧ _)) rfl rfl ?_
              rintro e_ w1 ⟨rfl, hb⟩
              refine ⟨_, rfl, ?_⟩
              replace HS := sB HS hb
              clear hb
              refine gd hK ?_
              clear hK K
              repeat (first | ((with_reducible refine gate_p ?_); refine rp rfl rfl ?_) | ((with_reducible refine gate_t ?_); refine rt rfl rfl hHeld ?_))
              refine run_done ?_
              clear hHeld
              go_wp2
              go_ret
              exact ⟨by rw [codeR_3 h h2 h3]; rfl, HS.out.below⟩
            | true =>
              go_wp2
              replace HS := sD HS
              refine ps (.p 1 (.p 2 (.p 3 (.t 0 (.t 4 (.d 5 (.p 6 .done))))))) (fun w' => w'.cell? ⟨g_x, 0, none⟩ = some (.int .i64 d) ∧ w'.cell? ⟨g_x, 1, none⟩ = some (.int .i64 n) ∧ w'.cell? ⟨g_x, 2, none⟩ = some (.slice A l.length c) ∧ w'.cell? ⟨q, 0, none⟩ = some (.int .i64 d2) ∧ w'.cell? ⟨q, 1, none⟩ = some (.int .i64 n2) ∧ w'.cell? ⟨q, 2, none⟩ = some (.slice A2 l2.length c2)) [5] ⟨HS.out.c 0 0 (v := .int .i64 d) rfl rfl, HS.out.c 0 1 (v := .int .i64 n) rfl rfl, HS.out.c 0 2 (v := .slice A l.length c) rfl rfl, bx_c (HS.out.oldI HQ.out) 0 rfl, bx_c (HS.out.oldI HQ.out) 1 rfl, bx_c (HS.out.oldI HQ.out) 2 rfl⟩ (fun hHeld => ?_)
              repeat (first | ((with_reducible refine gate_p ?_); refine rp rfl rfl ?_) | ((with_reducible refine gate_t ?_); refine rt rfl rfl hHeld ?_))
              refine run_d rfl (fun K hK => ?_)
              refine gc Try.func117 ((h3 ▸ specAlike d n d2 n2 A A2 l.length c l2.length c2 _ : Calls Try.prog 117 #[.agg #[.int .i64 d, .int .i64 n, .slice A l.length c], .agg #[.int .i64 d2, .int .i64 n2, .slice A2 l2.length c2]] _ fun e w' => e = .returned (.bool true) ∧ _)) rfl rfl ?_
              rintro e_ w1 ⟨rfl, hb⟩
              refine ⟨_, rfl, ?_⟩
              replace HS := sB HS hb
              clear hb
              refine gd hK ?_
              clear hK K
              repeat (first | ((with_reducible refine gate_p ?_); refine rp rfl rfl ?_) | ((with_reducible refine gate_t ?_); refine rt rfl rfl hHeld ?_))
              refine run_done ?_
              clear hHeld
              go_wp2
              go_roundw
              case rel => exact ⟨.inr ⟨by go_num, ⟨by first | trivial | exact h3⟩⟩, HS⟩
              case measure => simp [intOf]
          · skip
            go_wp2
            go_ret
            exact ⟨by rw [codeR_4 h h2 H3.out]; rfl, HS.out.below⟩
set_option maxHeartbeats 8000000 in
theorem implCode (d n : Int) (A : Option Addr) (c : Nat) (l : Ts) (d2 n2 : Int) (A2 : Option Addr) (c2 : Nat) (l2 : Ts) (w : World) (hr : KT.C w A l.length l) (hc : l.length ≤ c) (hb : bnd l = true) (hr2 : KT.C w A2 l2.length l2) (hc2 : l2.length ≤ c2) (hb2 : bnd l2 = true) :
    Calls Try.prog 67 #[.agg #[.int .i64 d, .int .i64 n, .slice A l.length c], .agg #[.int .i64 d2, .int .i64 n2, .slice A2 l2.length c2]] w fun e w' => e = .returned (.int .i64 (codeR d n l d2 n2 l2)) ∧ Below w.heap.size w w' := by
  have HR := Aside0.mk hr
  have HB := Aside0.mk hb
  have HR2 := Aside0.mk hr2
  have HB2 := Aside0.mk hb2
  have HS := Aside0.mk (Sep.refl w)
  clear hr hb hr2 hb2
  cases h : isS d n l with
  | false =>
    rw [codeR_1 h]
    go_enter Try.func67, Try.ntmps67
    go_wp2_with (first | ((with_reducible refine gate_dst (N := 2) rfl ?_); refine bxL 26 #[.int .i64 d, .int .i64 n, .slice A l.length c] HS ?_; clear HS; intro g_x w1 hg_x HS) | ((with_reducible refine gate_dst (N := 3) rfl ?_); refine bxL 26 #[.int .i64 d2, .int .i64 n2, .slice A2 l2.length c2] HS ?_; clear HS; intro g_y w1 hg_y HS; have f1_ := HS.out.c 1 0 (v := .int .i64 d) rfl rfl; have f2_ := HS.out.c 1 1 (v := .int .i64 n) rfl rfl; have f3_ := HS.out.c 1 2 (v := .slice A l.length c) rfl rfl) | (go_at_call 52; refine (implIs d n A c l _ (HS.out.oldC HR.out) hc HB.out).mono ?_; rintro e_ w1 ⟨rfl, hb⟩; replace HS := sB HS hb; clear hb f1_ f2_ f3_))
    go_ret
    exact ⟨rfl, HS.out.below⟩
  | true =>
    cases h2 : isS d2 n2 l2 with
    | false =>
      rw [codeR_2 h h2]
      go_enter Try.func67, Try.ntmps67
      have tk1_ : True := trivial
      go_wp2_with (first | ((with_reducible refine gate_dst (N := 2) rfl ?_); refine bxL 26 #[.int .i64 d, .int .i64 n, .slice A l.length c] HS ?_; clear HS; intro g_x w1 hg_x HS) | ((with_reducible refine gate_dst (N := 3) rfl ?_); refine bxL 26 #[.int .i64 d2, .int .i64 n2, .slice A2 l2.length c2] HS ?_; clear HS; intro g_y w1 hg_y HS; have f1_ := HS.out.c 1 0 (v := .int .i64 d) rfl rfl; have f2_ := HS.out.c 1 1 (v := .int .i64 n) rfl rfl; have f3_ := HS.out.c 1 2 (v := .slice A l.length c) rfl rfl) | (go_at_call 52; clear tk1_; refine (implIs d n A c l _ (HS.out.oldC HR.out) hc HB.out).mono ?_; rintro e_ w1 ⟨rfl, hb⟩; replace HS := sB HS hb; clear hb f1_ f2_ f3_; have f1_ := HS.out.c 0 0 (v := .int .i64 d2) rfl rfl; have f2_ := HS.out.c 0 1 (v := .int .i64 n2) rfl rfl; have f3_ := HS.out.c 0 2 (v := .slice A2 l2.length c2) rfl rfl) | (go_at_call 52; refine (implIs d2 n2 A2 c2 l2 _ (HS.out.oldC HR2.out) hc2 HB2.out).mono ?_; rintro e_ w1 ⟨rfl, hb⟩; replace HS := sB HS hb; clear hb f1_ f2_ f3_))
      go_ret
      exact ⟨rfl, HS.out.below⟩
    | true =>
      have HC := Aside0.mk (fun W => implAlike d n d2 n2 A A2 l.length c l2.length c2 W)
      cases h3 : decide (d = d2 ∧ n = n2) with
      | false =>
        rw [codeR_3 h h2 h3]
        rw [h3] at HC
        clear h3
        go_enter Try.func67, Try.ntmps67
        have tk2_ : True := trivial
        go_wp2_with (first | ((with_reducible refine gate_dst (N := 2) rfl ?_); refine bxL 26 #[.int .i64 d, .int .i64 n, .slice A l.length c] HS ?_; clear HS; intro g_x w1 hg_x HS) | ((with_reducible refine gate_dst (N := 3) rfl ?_); refine bxL 26 #[.int .i64 d2, .int .i64 n2, .slice A2 l2.length c2] HS ?_; clear HS; intro g_y w1 hg_y HS; have f1_ := HS.out.c 1 0 (v := .int .i64 d) rfl rfl; have f2_ := HS.out.c 1 1 (v := .int .i64 n) rfl rfl; have f3_ := HS.out.c 1 2 (v := .slice A l.length c) rfl rfl) | (go_at_call 52; clear tk2_; refine (implIs d n A c l _ (HS.out.oldC HR.out) hc HB.out).mono ?_; rintro e_ w1 ⟨rfl, hb⟩; replace HS := sB HS hb; clear hb f1_ f2_ f3_; have f1_ := HS.out.c 0 0 (v := .int .i64 d2) rfl rfl; have f2_ := HS.out.c 0 1 (v := .int .i64 n2) rfl rfl; have f3_ := HS.out.c 0 2 (v := .slice A2 l2.length c2) rfl rfl) | (go_at_call 52; refine (implIs d2 n2 A2 c2 l2 _ (HS.out.oldC HR2.out) hc2 HB2.out).mono ?_; rintro e_ w1 ⟨rfl, hb⟩; replace HS := sB HS hb; clear hb f1_ f2_ f3_; have f1_ := HS.out.c 1 0 (v := .int .i64 d) rfl rfl; have f2_ := HS.out.c 1 1 (v := .int .i64 n) rfl rfl; have f3_ := HS.out.c 1 2 (v := .slice A l.length c) rfl rfl; have f4_ := HS.out.c 0 0 (v := .int .i64 d2) rfl rfl; have f5_ := HS.out.c 0 1 (v := .int .i64 n2) rfl rfl; have f6_ := HS.out.c 0 2 (v := .slice A2 l2.length c2) rfl rfl) | (go_at_call 113; refine (HC.out _).mono ?_; rintro e_ w1 ⟨rfl, hb⟩; replace HS := sB HS hb; clear hb f1_ f2_ f3_ f4_ f5_ f6_))
        go_ret
        exact ⟨rfl, HS.out.below⟩
      | true =>
        rw [codeR_4 h h2 h3]
        rw [h3] at HC
        clear h3
        go_enter Try.func67, Try.ntmps67
        have tk3_ : True := trivial
        go_wp2_with (first | ((with_reducible refine gate_dst (N := 2) rfl ?_); refine bxL 26 #[.int .i64 d, .int .i64 n, .slice A l.length c] HS ?_; clear HS; intro g_x w1 hg_x HS) | ((with_reducible refine gate_dst (N := 3) rfl ?_); refine bxL 26 #[.int .i64 d2, .int .i64 n2, .slice A2 l2.length c2] HS ?_; clear HS; intro g_y w1 hg_y HS; have f1_ := HS.out.c 1 0 (v := .int .i64 d) rfl rfl; have f2_ := HS.out.c 1 1 (v := .int .i64 n) rfl rfl; have f3_ := HS.out.c 1 2 (v := .slice A l.length c) rfl rfl) | (go_at_call 52; clear tk3_; refine (implIs d n A c l _ (HS.out.oldC HR.out) hc HB.out).mono ?_; rintro e_ w1 ⟨rfl, hb⟩; replace HS := sB HS hb; clear hb f1_ f2_ f3_; have f1_ := HS.out.c 0 0 (v := .int .i64 d2) rfl rfl; have f2_ := HS.out.c 0 1 (v := .int .i64 n2) rfl rfl; have f3_ := HS.out.c 0 2 (v := .slice A2 l2.length c2) rfl rfl) | (go_at_call 52; refine (implIs d2 n2 A2 c2 l2 _ (HS.out.oldC HR2.out) hc2 HB2.out).mono ?_; rintro e_ w1 ⟨rfl, hb⟩; replace HS := sB HS hb; clear hb f1_ f2_ f3_; have f1_ := HS.out.c 1 0 (v := .int .i64 d) rfl rfl; have f2_ := HS.out.c 1 1 (v := .int .i64 n) rfl rfl; have f3_ := HS.out.c 1 2 (v := .slice A l.length c) rfl rfl; have f4_ := HS.out.c 0 0 (v := .int .i64 d2) rfl rfl; have f5_ := HS.out.c 0 1 (v := .int .i64 n2) rfl rfl; have f6_ := HS.out.c 0 2 (v := .slice A2 l2.length c2) rfl rfl) | (go_at_call 113; refine (HC.out _).mono ?_; rintro e_ w1 ⟨rfl, hb⟩; replace HS := sB HS hb; clear hb f1_ f2_ f3_ f4_ f5_ f6_))
        go_ret
        exact ⟨rfl, HS.out.below⟩
end Go.Proofs.Ytibjkjhpfmmjoaa.H
namespace Go.Proofs.Ytibjkjhpfmmjoaa.M
def twoR (f : Nat → Nat → Ts → Ts → Option Ts) (d n : Int) (l : Ts) (d2 n2 : Int) (l2 : Ts) : Rs := if codeR d n l d2 n2 l2 = 0 then resO d n (f d.toNat n.toNat l l2) else noS (codeR d n l d2 n2 l2)
theorem two_len {f : Nat → Nat → Ts → Ts → Option Ts} (hf : ∀ d n x y, d ≤ 9 → isTs d n x = true → isTs d n y = true → ∃ F, Rel d n (f d n x y) F) {d n : Int} {l : Ts} {d2 n2 : Int} {l2 : Ts} : (twoR f d n l d2 n2 l2).2.2.1.length ≤ 1048576 := by
  unfold twoR
  split
  · rename_i h
    obtain ⟨h1, h2, h3, h4⟩ := codeR_zero h
    subst h3 h4
    obtain ⟨⟨e1, e2⟩, ⟨e3, e4⟩, _⟩ := lev_iff.1 (isS_l h1)
    obtain ⟨F, hF⟩ := hf d.toNat n.toNat l l2 (by omega) (isS_t h1) (isS_t h2)
    exact resO_len (by omega) (by omega) hF
  · show (0 : Nat) ≤ _; decide
end Go.Proofs.Ytibjkjhpfmmjoaa.M


namespace Go.Proofs.Ytibjkjhpfmmjoaa.H
open Go.RowKit Go.Proofs.YtibjkjhpfmmjoaaW.PrintWords Go.Proofs.YtibjkjhpfmmjoaaW.PrintLast Go.Proofs.YtibjkjhpfmmjoaaW.PrintMore Go.Proofs.Ytibjkjhpfmmjoaa.M
attribute [local go_sem] max2_int min2_int max_two min_two max_three min_three max_four min_four resQ
set_option linter.unusedVariables false
set_option linter.unusedSimpArgs false
set_option maxRecDepth 100000
set_option maxHeartbeats 8000000 in
theorem specMultiplySeries (d n : Int) (A : Option Addr) (c : Nat) (l : Ts) (d2 n2 : Int) (A2 : Option Addr) (cc : Nat) (l2 : Ts) (w : World) (hr : KT.C w A l.length l) (hc : l.length ≤ c) (hb : bnd l = true) (hr2 : KT.C w A2 l2.length l2) (hcc : l2.length ≤ cc) (hb2 : bnd l2 = true) :
    Calls Try.prog 21 #[.agg #[.int .i64 d, .int .i64 n, .slice A l.length c], .agg #[.int .i64 d2, .int .i64 n2, .slice A2 l2.length cc]] w (RetS w (twoR mulS d n l d2 n2 l2)) := by
  have HR := Aside0.mk hr
  have HB := Aside0.mk hb
  have HR2 := Aside0.mk hr2
  have HB2 := Aside0.mk hb2
  have HS := Aside0.mk (Sep.refl w)
  clear hr hb hr2 hb2
  have HC := Aside0.mk (fun q W k1 k2 k3 => specCode d n A c l d2 n2 A2 cc l2 q W k1 hc HB.out k2 hcc HB2.out k3)
  unfold twoR
  obtain ⟨k, hk⟩ : ∃ k, k = codeR d n l d2 n2 l2 := ⟨_, rfl⟩
  rw [← hk] at HC
  rw [← hk]
  by_cases h0 : k = 0
  · subst h0
    obtain ⟨h1, h2, h3, h4⟩ := codeR_zero hk.symm
    subst h3 h4
    clear hk
    obtain ⟨d, n, rfl, rfl, hd1, hd3, hn1, hn5⟩ := lev_nat (isS_l h1)
    have HP := Aside0.mk (fun W k1 k2 => specTimes2 d n hd3 hn5 A c l A2 cc l2 W k1 hc k2 hcc (isS_t h1) (isS_t h2))
    rw [Int.toNat_natCast, Int.toNat_natCast]
    clear h1 h2
    rw [if_pos rfl]
    obtain ⟨o, ho⟩ : ∃ o, o = mulS d n l l2 := ⟨_, rfl⟩
    rw [← ho] at HP
    rw [← ho]
    clear ho
    cases o with
    | none =>
      go_enter Try.func21, Try.ntmps21
      go_wp2_with (first | ((with_reducible refine gate_dst (N := 2) rfl ?_); refine bxL 26 #[.int .i64 (d : Int), .int .i64 (n : Int), .slice A l.length c] HS ?_; clear HS; intro g_p w1 hg_p HS) | ((with_reducible refine gate_dst (N := 3) rfl ?_); refine bxL 26 #[.int .i64 (d : Int), .int .i64 (n : Int), .slice A2 l2.length cc] HS ?_; clear HS; intro g_a w1 hg_a HS) | ((with_reducible refine gate_dst (N := 4) rfl ?_); refine bxL 26 #[(.int .i64 0), (.int .i64 0), (.slice none 0 0)] HS ?_; clear HS; intro g_r w1 hg_r HS; have f1_ := HS.out.c 2 0 (v := .int .i64 (d : Int)) rfl rfl; have f2_ := HS.out.c 2 1 (v := .int .i64 (n : Int)) rfl rfl; have f3_ := HS.out.c 2 2 (v := .slice A l.length c) rfl rfl; have f4_ := HS.out.c 1 0 (v := .int .i64 (d : Int)) rfl rfl; have f5_ := HS.out.c 1 1 (v := .int .i64 (n : Int)) rfl rfl; have f6_ := HS.out.c 1 2 (v := .slice A2 l2.length cc) rfl rfl) | ((with_reducible refine gate_dst (N := 11) rfl ?_); refine wpList_stp (fun K hK => ?_); refine stp_bs (by rfl) HS (cs := #[.int .i64 (d : Int), .int .i64 (n : Int), .slice A2 l2.length cc]) (t := 26) (m := 1) (by first | (go_simp; done) | (go_simp; rfl)) ?_; clear HS f1_ f2_ f3_ f4_ f5_ f6_; intro g_v w1 hg_v HS; refine hK _ _ ?_; clear hK K) | (go_at_call 70; refine (HC.out g_v _ (HS.out.oldC HR.out) (HS.out.oldC HR2.out) (HS.out.at (i := 0) rfl)).mono ?_; rintro e_ w1 ⟨rfl, hb⟩; replace HS := sB HS hb; clear hb; have f1_ := HS.out.c 3 0 (v := .int .i64 (d : Int)) rfl rfl; have f2_ := HS.out.c 3 1 (v := .int .i64 (n : Int)) rfl rfl; have f3_ := HS.out.c 3 2 (v := .slice A l.length c) rfl rfl; have f4_ := HS.out.c 2 0 (v := .int .i64 (d : Int)) rfl rfl; have f5_ := HS.out.c 2 1 (v := .int .i64 (n : Int)) rfl rfl; have f6_ := HS.out.c 2 2 (v := .slice A2 l2.length cc) rfl rfl) | (go_at_call 71; refine (HP.out _ (HS.out.oldC HR.out) (HS.out.oldC HR2.out)).mono ?_; rintro e_ w1 ⟨B, b, rfl, hs⟩; replace HS := sN1 HS hs; clear hs f1_ f2_ f3_ f4_ f5_ f6_) | ((with_reducible refine gate_dst (N := 7) rfl ?_); refine bxL 26 #[(.int .i64 0), (.int .i64 0), (.slice none 0 0)] HS ?_; clear HS; intro g_q w1 hg_q HS) | ((with_reducible refine gate_store (t := 26) (p := 7) rfl ?_); refine stL HS 0 0 #[.int .i64 0, .int .i64 0, .slice B ([] : Ts).length b] rfl rfl rfl rfl rfl ?_; clear HS; intro w1 HS) | ((with_reducible refine gate_store (t := 26) (p := 4) rfl ?_); refine stL HS 3 0 #[(.int .i64 0), (.int .i64 0), (.slice none 0 0)] rfl rfl rfl rfl rfl ?_; clear HS; intro w1 HS))
      refine bodyPost_ret (results_cell_tmp_row rfl _ _ g_r 26 #[(.int .i64 0), (.int .i64 0), (.slice none 0 0)] (0, 0) _ rfl (HS.out.at (i := 3) rfl) Try.underlying26 rfl (by kernel_rfl)) rfl ?_
      exact ⟨none, 0, rfl, nilS (HS.out.sel [] (by decide))⟩
    | some z =>
      go_enter Try.func21, Try.ntmps21
      go_wp2_with (first | ((with_reducible refine gate_dst (N := 2) rfl ?_); refine bxL 26 #[.int .i64 (d : Int), .int .i64 (n : Int), .slice A l.length c] HS ?_; clear HS; intro g_p w1 hg_p HS) | ((with_reducible refine gate_dst (N := 3) rfl ?_); refine bxL 26 #[.int .i64 (d : Int), .int .i64 (n : Int), .slice A2 l2.length cc] HS ?_; clear HS; intro g_a w1 hg_a HS) | ((with_reducible refine gate_dst (N := 4) rfl ?_); refine bxL 26 #[(.int .i64 0), (.int .i64 0), (.slice none 0 0)] HS ?_; clear HS; intro g_r w1 hg_r HS; have f1_ := HS.out.c 2 0 (v := .int .i64 (d : Int)) rfl rfl; have f2_ := HS.out.c 2 1 (v := .int .i64 (n : Int)) rfl rfl; have f3_ := HS.out.c 2 2 (v := .slice A l.length c) rfl rfl; have f4_ := HS.out.c 1 0 (v := .int .i64 (d : Int)) rfl rfl; have f5_ := HS.out.c 1 1 (v := .int .i64 (n : Int)) rfl rfl; have f6_ := HS.out.c 1 2 (v := .slice A2 l2.length cc) rfl rfl) | ((with_reducible refine gate_dst (N := 11) rfl ?_); refine wpList_stp (fun K hK => ?_); refine stp_bs (by rfl) HS (cs := #[.int .i64 (d : Int), .int .i64 (n : Int), .slice A2 l2.length cc]) (t := 26) (m := 1) (by first | (go_simp; done) | (go_simp; rfl)) ?_; clear HS f1_ f2_ f3_ f4_ f5_ f6_; intro g_v w1 hg_v HS; refine hK _ _ ?_; clear hK K) | (go_at_call 70; refine (HC.out g_v _ (HS.out.oldC HR.out) (HS.out.oldC HR2.out) (HS.out.at (i := 0) rfl)).mono ?_; rintro e_ w1 ⟨rfl, hb⟩; replace HS := sB HS hb; clear hb; have f1_ := HS.out.c 3 0 (v := .int .i64 (d : Int)) rfl rfl; have f2_ := HS.out.c 3 1 (v := .int .i64 (n : Int)) rfl rfl; have f3_ := HS.out.c 3 2 (v := .slice A l.length c) rfl rfl; have f4_ := HS.out.c 2 0 (v := .int .i64 (d : Int)) rfl rfl; have f5_ := HS.out.c 2 1 (v := .int .i64 (n : Int)) rfl rfl; have f6_ := HS.out.c 2 2 (v := .slice A2 l2.length cc) rfl rfl) | (go_at_call 71; refine (HP.out _ (HS.out.oldC HR.out) (HS.out.oldC HR2.out)).mono ?_; rintro e_ w1 ⟨B, b, rfl, hs⟩; replace HS := sN1 HS hs; clear hs f1_ f2_ f3_ f4_ f5_ f6_) | ((with_reducible refine gate_dst (N := 7) rfl ?_); refine bxL 26 #[(.int .i64 0), (.int .i64 0), (.slice none 0 0)] HS ?_; clear HS; intro g_q w1 hg_q HS) | ((with_reducible refine gate_store (t := 26) (p := 7) rfl ?_); refine stL HS 0 0 #[.int .i64 (d : Int), .int .i64 (n : Int), .slice B z.length b] rfl rfl rfl rfl rfl ?_; clear HS; intro w1 HS; have f1_ := HS.out.c 0 0 (v := .int .i64 (d : Int)) rfl rfl; have f2_ := HS.out.c 0 1 (v := .int .i64 (n : Int)) rfl rfl; have f3_ := HS.out.c 0 2 (v := .slice B z.length b) rfl rfl) | ((with_reducible refine gate_store (t := 26) (p := 4) rfl ?_); refine stL HS 3 0 #[.int .i64 (d : Int), .int .i64 (n : Int), .slice B z.length b] rfl rfl rfl rfl rfl ?_; clear HS f1_ f2_ f3_; intro w1 HS))
      refine bodyPost_ret (results_cell_tmp_row rfl _ _ g_r 26 #[.int .i64 (d : Int), .int .i64 (n : Int), .slice B z.length b] (0, 0) _ rfl (HS.out.at (i := 3) rfl) Try.underlying26 rfl (by kernel_rfl)) rfl ?_
      exact ⟨B, b, rfl, HS.out.sel [1] (by decide)⟩
  · have hkb : (k != 0) = true := by simpa using h0
    rw [if_neg h0]
    clear hk h0
    go_enter Try.func21, Try.ntmps21
    go_wp2_with (first | ((with_reducible refine gate_dst (N := 2) rfl ?_); refine bxL 26 #[.int .i64 d, .int .i64 n, .slice A l.length c] HS ?_; clear HS; intro g_p w1 hg_p HS) | ((with_reducible refine gate_dst (N := 3) rfl ?_); refine bxL 26 #[.int .i64 d2, .int .i64 n2, .slice A2 l2.length cc] HS ?_; clear HS; intro g_a w1 hg_a HS) | ((with_reducible refine gate_dst (N := 4) rfl ?_); refine bxL 26 #[(.int .i64 0), (.int .i64 0), (.slice none 0 0)] HS ?_; clear HS; intro g_r w1 hg_r HS; have f1_ := HS.out.c 2 0 (v := .int .i64 d) rfl rfl; have f2_ := HS.out.c 2 1 (v := .int .i64 n) rfl rfl; have f3_ := HS.out.c 2 2 (v := .slice A l.length c) rfl rfl; have f4_ := HS.out.c 1 0 (v := .int .i64 d2) rfl rfl; have f5_ := HS.out.c 1 1 (v := .int .i64 n2) rfl rfl; have f6_ := HS.out.c 1 2 (v := .slice A2 l2.length cc) rfl rfl) | ((with_reducible refine gate_dst (N := 11) rfl ?_); refine wpList_stp (fun K hK => ?_); refine stp_bs (by rfl) HS (cs := #[.int .i64 d2, .int .i64 n2, .slice A2 l2.length cc]) (t := 26) (m := 1) (by first | (go_simp; done) | (go_simp; rfl)) ?_; clear HS f1_ f2_ f3_ f4_ f5_ f6_; intro g_v w1 hg_v HS; refine hK _ _ ?_; clear hK K) | (go_at_call 70; refine (HC.out g_v _ (HS.out.oldC HR.out) (HS.out.oldC HR2.out) (HS.out.at (i := 0) rfl)).mono ?_; rintro e_ w1 ⟨rfl, hb⟩; replace HS := sB HS hb; clear hb) | ((with_reducible refine gate_store (t := 26) (p := 4) rfl ?_); refine stL HS 1 0 #[(.int .i64 0), (.int .i64 0), (.slice none 0 0)] rfl rfl rfl rfl rfl ?_; clear HS; intro w1 HS))
    refine bodyPost_ret (results_cell_tmp_row rfl _ _ g_r 26 #[(.int .i64 0), (.int .i64 0), (.slice none 0 0)] (0, 0) _ rfl (HS.out.at (i := 1) rfl) Try.underlying26 rfl (by kernel_rfl)) rfl ?_
    exact ⟨none, 0, rfl, nilS (HS.out.sel [] (by decide))⟩
set_option maxHeartbeats 8000000 in
theorem implMultiplySeries (d n : Int) (A : Option Addr) (c : Nat) (l : Ts) (d2 n2 : Int) (A2 : Option Addr) (cc : Nat) (l2 : Ts) (w : World) (hr : KT.C w A l.length l) (hc : l.length ≤ c) (hb : bnd l = true) (hr2 : KT.C w A2 l2.length l2) (hcc : l2.length ≤ cc) (hb2 : bnd l2 = true) :
    Calls Try.prog 18 #[.agg #[.int .i64 d, .int .i64 n, .slice A l.length c], .agg #[.int .i64 d2, .int .i64 n2, .slice A2 l2.length cc]] w (RetS w (twoR mulS d n l d2 n2 l2)) := by
  have HR := Aside0.mk hr
  have HB := Aside0.mk hb
  have HR2 := Aside0.mk hr2
  have HB2 := Aside0.mk hb2
  have HS := Aside0.mk (Sep.refl w)
  clear hr hb hr2 hb2
  have HC := Aside0.mk (fun W k1 k2 => implCode d n A c l d2 n2 A2 cc l2 W k1 hc HB.out k2 hcc HB2.out)
  unfold twoR
  obtain ⟨k, hk⟩ : ∃ k, k = codeR d n l d2 n2 l2 := ⟨_, rfl⟩
  rw [← hk] at HC
  rw [← hk]
  by_cases h0 : k = 0
  · subst h0
    obtain ⟨h1, h2, h3, h4⟩ := codeR_zero hk.symm
    subst h3 h4
    clear hk
    have HX := Aside0.mk (isS_t h1)
    have HY := Aside0.mk (isS_t h2)
    have hlev := isS_l h1
    obtain ⟨d, n, rfl, rfl, hd1, hd3, hn1, hn5⟩ := lev_nat hlev
    have HL := Aside0.mk hlev
    clear h1 h2 hlev
    rw [Int.toNat_natCast, Int.toNat_natCast] at HX HY
    rw [Int.toNat_natCast, Int.toNat_natCast]
    rw [if_pos rfl]
    go_enter Try.func18, Try.ntmps18
    go_wp2_with (first | ((with_reducible refine gate_dst (N := 2) rfl ?_); refine bxL 26 #[.int .i64 (d : Int), .int .i64 (n : Int), .slice A l.length c] HS ?_; clear HS; intro g_p w1 hg_p HS) | ((with_reducible refine gate_dst (N := 3) rfl ?_); refine bxL 26 #[.int .i64 (d : Int), .int .i64 (n : Int), .slice A2 l2.length cc] HS ?_; clear HS; intro g_a w1 hg_a HS) | ((with_reducible refine gate_dst (N := 4) rfl ?_); refine bxL 26 #[(.int .i64 0), (.int .i64 0), (.slice none 0 0)] HS ?_; clear HS; intro g_r w1 hg_r HS; have f1_ := HS.out.c 2 0 (v := .int .i64 (d : Int)) rfl rfl; have f2_ := HS.out.c 2 1 (v := .int .i64 (n : Int)) rfl rfl; have f3_ := HS.out.c 2 2 (v := .slice A l.length c) rfl rfl; have f4_ := HS.out.c 1 0 (v := .int .i64 (d : Int)) rfl rfl; have f5_ := HS.out.c 1 1 (v := .int .i64 (n : Int)) rfl rfl; have f6_ := HS.out.c 1 2 (v := .slice A2 l2.length cc) rfl rfl) | (go_at_call 67; refine (HC.out _ (HS.out.oldC HR.out) (HS.out.oldC HR2.out)).mono ?_; rintro e_ w1 ⟨rfl, hb⟩; replace HS := sB HS hb; clear hb f1_ f2_ f3_ f4_ f5_ f6_))
    replace HS := sD HS
    refine ps (.t 0 (.t 2 (.e 1 (.d 3 (.d 4 (.d 5 (.p 6 (.p 7 (.d 8 (.p 9 .done)))))))))) (fun w' => w'.cell? ⟨g_p, 0, none⟩ = some (.int .i64 (d : Int)) ∧ w'.cell? ⟨g_p, 1, none⟩ = some (.int .i64 (n : Int)) ∧ w'.cell? ⟨g_p, 2, none⟩ = some (.slice A l.length c) ∧ w'.cell? ⟨g_a, 0, none⟩ = some (.int .i64 (d : Int)) ∧ w'.cell? ⟨g_a, 1, none⟩ = some (.int .i64 (n : Int)) ∧ w'.cell? ⟨g_a, 2, none⟩ = some (.slice A2 l2.length cc)) [3, 4, 5, 8] ⟨HS.out.c 2 0 (v := .int .i64 (d : Int)) rfl rfl, HS.out.c 2 1 (v := .int .i64 (n : Int)) rfl rfl, HS.out.c 2 2 (v := .slice A l.length c) rfl rfl, HS.out.c 1 0 (v := .int .i64 (d : Int)) rfl rfl, HS.out.c 1 1 (v := .int .i64 (n : Int)) rfl rfl, HS.out.c 1 2 (v := .slice A2 l2.length cc) rfl rfl⟩ (fun hHeld => ?_)
    repeat (first | ((with_reducible refine gate_p ?_); refine rp rfl rfl ?_) | ((with_reducible refine gate_t ?_); refine rt rfl rfl hHeld ?_))
    refine run_e rfl (fun K hK => ?_)
    refine gc Try.func64 (tabOpen A c l _ HL.out (HS.out.oldC HR.out) HX.out) rfl rfl ?_
    rintro e_ w1 ⟨g, v, F, rfl, hF, hQ, hs⟩
    refine ⟨_, rfl, ?_⟩
    replace HS := sN2 HS hs
    clear hs
    have HF1 := Aside0.mk hF; have HQ1 := Aside0.mk hQ; clear hF hQ
    refine ge hK ⟨HS.out.c 4 0 (v := .int .i64 (d : Int)) rfl rfl, HS.out.c 4 1 (v := .int .i64 (n : Int)) rfl rfl, HS.out.c 4 2 (v := .slice A l.length c) rfl rfl, HS.out.c 3 0 (v := .int .i64 (d : Int)) rfl rfl, HS.out.c 3 1 (v := .int .i64 (n : Int)) rfl rfl, HS.out.c 3 2 (v := .slice A2 l2.length cc) rfl rfl⟩ (fun hHeld => ?_)
    clear hK K
    refine run_d rfl (fun K hK => ?_)
    refine gc Try.func64 (tabOpen A2 cc l2 _ HL.out (HS.out.oldC HR2.out) HY.out) rfl rfl ?_
    rintro e_ w1 ⟨g2, v2, F2, rfl, hF, hQ, hs⟩
    refine ⟨_, rfl, ?_⟩
    replace HS := sN2 HS hs
    clear hs
    have HF2 := Aside0.mk hF; have HQ2 := Aside0.mk hQ; clear hF hQ
    refine gd hK ?_
    clear hK K
    refine run_d rfl (fun K hK => ?_)
    refine gc Try.func68 (tabTimes HL.out ⟨HF1.out, HQ1.out, HS.out.at (i := 2) rfl, HS.out.at (i := 3) rfl⟩ ⟨HF2.out, HQ2.out, HS.out.at (i := 0) rfl, HS.out.at (i := 1) rfl⟩) rfl rfl ?_
    rintro e_ w1 ⟨g3, v3, F3, rfl, hF, hQ, hs⟩
    refine ⟨_, rfl, ?_⟩
    replace HS := sN2 HS hs
    clear hs
    have HF3 := Aside0.mk hF; have HQ3 := Aside0.mk hQ; clear hF hQ
    refine gd hK ?_
    clear hK K
    refine run_d rfl (fun K hK => ?_)
    refine gc Try.func69 (tabTold HL.out ⟨HF3.out, HQ3.out, HS.out.at (i := 0) rfl, HS.out.at (i := 1) rfl⟩) rfl rfl ?_
    rintro e_ w1 ⟨B, b, rfl, hs⟩
    refine ⟨_, rfl, ?_⟩
    replace HS := sN1 HS hs
    clear hs
    refine gd hK ?_
    clear hK K
    repeat (first | ((with_reducible refine gate_p ?_); refine rp rfl rfl ?_) | ((with_reducible refine gate_t ?_); refine rt rfl rfl hHeld ?_))
    refine run_d rfl (fun K hK => ?_)
    refine st1 HS 7 0 #[.int .i64 (resO d n (mulS d n l l2)).1, .int .i64 (resO d n (mulS d n l l2)).2.1, .slice B (resO d n (mulS d n l l2)).2.2.1.length b] rfl rfl rfl rfl rfl ?_
    clear HS
    intro w1 HS
    refine goD hK rfl ?_
    clear hK K
    repeat (first | ((with_reducible refine gate_p ?_); refine rp rfl rfl ?_) | ((with_reducible refine gate_t ?_); refine rt rfl rfl hHeld ?_))
    refine run_done ?_
    clear hHeld
    go_wp2
    refine bodyPost_ret (results_cell_tmp_row rfl _ _ g_r 26 #[.int .i64 (resO d n (mulS d n l l2)).1, .int .i64 (resO d n (mulS d n l l2)).2.1, .slice B (resO d n (mulS d n l l2)).2.2.1.length b] (0, 0) _ rfl (HS.out.at (i := 7) rfl) Try.underlying26 rfl (by kernel_rfl)) rfl ?_
    exact ⟨B, b, rfl, HS.out.sel [0] (by decide)⟩
  · have hkb : (k != 0) = true := by simpa using h0
    rw [if_neg h0]
    clear hk h0
    go_enter Try.func18, Try.ntmps18
    go_wp2_with (first | ((with_reducible refine gate_dst (N := 2) rfl ?_); refine bxL 26 #[.int .i64 d, .int .i64 n, .slice A l.length c] HS ?_; clear HS; intro g_p w1 hg_p HS) | ((with_reducible refine gate_dst (N := 3) rfl ?_); refine bxL 26 #[.int .i64 d2, .int .i64 n2, .slice A2 l2.length cc] HS ?_; clear HS; intro g_a w1 hg_a HS) | ((with_reducible refine gate_dst (N := 4) rfl ?_); refine bxL 26 #[(.int .i64 0), (.int .i64 0), (.slice none 0 0)] HS ?_; clear HS; intro g_r w1 hg_r HS; have f1_ := HS.out.c 2 0 (v := .int .i64 d) rfl rfl; have f2_ := HS.out.c 2 1 (v := .int .i64 n) rfl rfl; have f3_ := HS.out.c 2 2 (v := .slice A l.length c) rfl rfl; have f4_ := HS.out.c 1 0 (v := .int .i64 d2) rfl rfl; have f5_ := HS.out.c 1 1 (v := .int .i64 n2) rfl rfl; have f6_ := HS.out.c 1 2 (v := .slice A2 l2.length cc) rfl rfl) | (go_at_call 67; refine (HC.out _ (HS.out.oldC HR.out) (HS.out.oldC HR2.out)).mono ?_; rintro e_ w1 ⟨rfl, hb⟩; replace HS := sB HS hb; clear hb f1_ f2_ f3_ f4_ f5_ f6_) | ((with_reducible refine gate_store (t := 26) (p := 4) rfl ?_); refine stL HS 0 0 #[(.int .i64 0), (.int .i64 0), (.slice none 0 0)] rfl rfl rfl rfl rfl ?_; clear HS; intro w1 HS))
    refine bodyPost_ret (results_cell_tmp_row rfl _ _ g_r 26 #[(.int .i64 0), (.int .i64 0), (.slice none 0 0)] (0, 0) _ rfl (HS.out.at (i := 0) rfl) Try.underlying26 rfl (by kernel_rfl)) rfl ?_
    exact ⟨none, 0, rfl, nilS (HS.out.sel [] (by decide))⟩
end Go.Proofs.Ytibjkjhpfmmjoaa.H



namespace Go.Proofs.Ytibjkjhpfmmjoaa.M
def unitR (d n : Int) : Rs := if lev d n = true then (d, n, unitT, 0) else noS 2
def coefR (d n : Int) (l : Ts) (s : ByteArray) : Rf := if isS d n l = true then if (s.size : Int) ≤ n ∧ isWd d.toNat s = true then ((co l s).1, (co l s).2, 0) else (0, 0, 2) else (0, 0, 1)
theorem unit_len (d n : Int) : (unitR d n).2.2.1.length ≤ 1048576 := by
  unfold unitR noS; split
  · show (1 : Nat) ≤ _; decide
  · show (0 : Nat) ≤ _; decide
end Go.Proofs.Ytibjkjhpfmmjoaa.M
namespace Go.Proofs.Ytibjkjhpfmmjoaa.H
open Go.RowKit Go.Proofs.YtibjkjhpfmmjoaaW.PrintWords Go.Proofs.YtibjkjhpfmmjoaaW.PrintLast Go.Proofs.YtibjkjhpfmmjoaaW.PrintMore Go.Proofs.Ytibjkjhpfmmjoaa.M
attribute [local go_sem] max2_int min2_int max_two min_two max_three min_three max_four min_four
set_option linter.unusedVariables false
set_option linter.unusedSimpArgs false
set_option maxRecDepth 100000
set_option maxHeartbeats 4000000 in
theorem specUnitSeries (d n : Int) (w : World) : Calls Try.prog 29 #[.int .i64 d, .int .i64 n] w (RetS w (unitR d n)) := by
  have HS := Aside0.mk (Sep.refl w)
  unfold unitR
  cases h : lev d n with
  | false =>
    go_enter Try.func29, Try.ntmps29
    go_wp2_with (first | ((with_reducible refine gate_dst (N := 4) rfl ?_); refine bxL 26 #[(.int .i64 0), (.int .i64 0), (.slice none 0 0)] HS ?_; clear HS; intro g_r w1 hg_r HS) | (go_at_call 81; refine (specLevel2 _ _ _).mono ?_; rintro e_ w1 ⟨rfl, hb⟩; replace HS := sB HS hb; clear hb) | ((with_reducible refine gate_store (t := 26) (p := 4) rfl ?_); refine stL HS 0 0 #[(.int .i64 0), (.int .i64 0), (.slice none 0 0)] rfl rfl rfl rfl rfl ?_; clear HS; intro w1 HS))
    refine bodyPost_ret (results_cell_tmp_row rfl _ _ g_r 26 #[(.int .i64 0), (.int .i64 0), (.slice none 0 0)] (0, 0) _ rfl (HS.out.at (i := 0) rfl) Try.underlying26 rfl (by kernel_rfl)) rfl ?_
    replace HS : Aside0 (Mod _ _ _ []) := sX HS []
    exact ⟨none, 0, rfl, nilS HS.out⟩
  | true =>
    go_enter Try.func29, Try.ntmps29
    go_wp2_with (first | ((with_reducible refine gate_dst (N := 4) rfl ?_); refine bxL 26 #[(.int .i64 0), (.int .i64 0), (.slice none 0 0)] HS ?_; clear HS; intro g_r w1 hg_r HS) | (go_at_call 81; refine (specLevel2 _ _ _).mono ?_; rintro e_ w1 ⟨rfl, hb⟩; replace HS := sB HS hb; clear hb) | (go_at_call 77; refine (specUnit d n none 0 0 _).mono ?_; rintro e_ w1 ⟨B, b, rfl, hs⟩; replace HS := sN1 HS hs; clear hs) | ((with_reducible refine gate_store (t := 26) (p := 4) rfl ?_); refine stL HS 1 0 #[.int .i64 d, .int .i64 n, .slice B unitT.length b] rfl rfl rfl rfl rfl ?_; clear HS; intro w1 HS))
    refine bodyPost_ret (results_cell_tmp_row rfl _ _ g_r 26 #[.int .i64 d, .int .i64 n, .slice B unitT.length b] (0, 0) _ rfl (HS.out.at (i := 1) rfl) Try.underlying26 rfl (by kernel_rfl)) rfl ?_
    replace HS : Aside0 (Mod _ _ _ [_]) := sX HS [0]
    exact ⟨B, b, rfl, HS.out⟩
set_option maxHeartbeats 4000000 in
theorem implUnitSeries (d n : Int) (w : World) : Calls Try.prog 28 #[.int .i64 d, .int .i64 n] w (RetS w (unitR d n)) := by
  have HS := Aside0.mk (Sep.refl w)
  unfold unitR
  cases h : lev d n with
  | false =>
    go_enter Try.func28, Try.ntmps28
    go_wp2_with (first | ((with_reducible refine gate_dst (N := 4) rfl ?_); refine bxL 26 #[(.int .i64 0), (.int .i64 0), (.slice none 0 0)] HS ?_; clear HS; intro g_r w1 hg_r HS) | (go_at_call 78; refine (implLevel _ _ _).mono ?_; rintro e_ w1 ⟨rfl, hb⟩; replace HS := sB HS hb; clear hb) | ((with_reducible refine gate_store (t := 26) (p := 4) rfl ?_); refine stL HS 0 0 #[(.int .i64 0), (.int .i64 0), (.slice none 0 0)] rfl rfl rfl rfl rfl ?_; clear HS; intro w1 HS))
    refine bodyPost_ret (results_cell_tmp_row rfl _ _ g_r 26 #[(.int .i64 0), (.int .i64 0), (.slice none 0 0)] (0, 0) _ rfl (HS.out.at (i := 0) rfl) Try.underlying26 rfl (by kernel_rfl)) rfl ?_
    replace HS : Aside0 (Mod _ _ _ []) := sX HS []
    exact ⟨none, 0, rfl, nilS HS.out⟩
  | true =>
    obtain ⟨d, n, rfl, rfl, hd1, hd3, hn1, hn5⟩ := lev_nat h
    have HL := Aside0.mk h
    have HU := Aside0.mk (show toldR d n (upd (fun _ => (0, 1)) eps (1, 1), false) = ((d : Int), (n : Int), unitT, 0) by unfold toldR; rw [if_neg (by simp), tabT_unit (by omega)])
    have HTo := Aside0.mk (fun g v W h1 h2 => HU.out ▸ implTold g v d n false (upd (fun _ => (0, 1)) eps (1, 1)) W HL.out h1 h2)
    go_enter Try.func28, Try.ntmps28
    go_wp2_with (first | ((with_reducible refine gate_dst (N := 4) rfl ?_); refine bxL 26 #[(.int .i64 0), (.int .i64 0), (.slice none 0 0)] HS ?_; clear HS; intro g_r w1 hg_r HS) | (go_at_call 78; refine (implLevel _ _ _).mono ?_; rintro e_ w1 ⟨rfl, hb⟩; replace HS := sB HS hb; clear hb) | (go_at_call 79; refine (implNew d n HL.out _).mono ?_; rintro e_ w1 ⟨g, v, rfl, hs⟩; replace HS := sN2 HS hs; clear hs) | (go_at_call 80; refine (implUnit g v d n _ false _ HL.out (HS.out.at (i := 0) rfl)).mono ?_; rintro e_ w1 ⟨g', v', rfl, hs⟩; replace HS := sN2 HS hs; clear hs) | (go_at_call 69; refine (HTo.out g' v' _ (HS.out.at (i := 0) rfl) (HS.out.at (i := 1) rfl)).mono ?_; rintro e_ w1 ⟨B, b, rfl, hs⟩; replace HS := sN1 HS hs; clear hs) | ((with_reducible refine gate_store (t := 26) (p := 4) rfl ?_); refine stL HS 5 0 #[.int .i64 (d : Int), .int .i64 (n : Int), .slice B unitT.length b] rfl rfl rfl rfl rfl ?_; clear HS; intro w1 HS))
    refine bodyPost_ret (results_cell_tmp_row rfl _ _ g_r 26 #[.int .i64 (d : Int), .int .i64 (n : Int), .slice B unitT.length b] (0, 0) _ rfl (HS.out.at (i := 5) rfl) Try.underlying26 rfl (by kernel_rfl)) rfl ?_
    replace HS : Aside0 (Mod _ _ _ [_]) := sX HS [0]
    exact ⟨B, b, rfl, HS.out⟩
set_option maxHeartbeats 4000000 in
theorem implCoefficientOf (d n : Int) (A : Option Addr) (c : Nat) (l : Ts) (s : ByteArray) (w : World) (hr : KT.C w A l.length l) (hc : l.length ≤ c) (hb : bnd l = true) (hsz : s.size ≤ 1048576) :
    Calls Try.prog 16 #[.agg #[.int .i64 d, .int .i64 n, .slice A l.length c], .string s] w (RetF w (coefR d n l s)) := by
  have HR := Aside0.mk hr
  have HB := Aside0.mk hb
  have hll := (bnd_iff.1 hb).1
  have HS := Aside0.mk (Sep.refl w)
  clear hr hb
  unfold coefR
  cases h : isS d n l with
  | false =>
    go_enter Try.func16, Try.ntmps16
    go_wp2_with (first | ((with_reducible refine gate_dst (N := 2) rfl ?_); refine bxL 26 #[.int .i64 d, .int .i64 n, .slice A l.length c] HS ?_; clear HS; intro g_x w1 hg_x HS) | ((with_reducible refine gate_dst (N := 4) rfl ?_); refine bxL 34 #[(.int .i64 0), (.int .i64 0)] HS ?_; clear HS; intro g_r w1 hg_r HS; have f1_ := HS.out.c 1 0 (v := .int .i64 d) rfl rfl; have f2_ := HS.out.c 1 1 (v := .int .i64 n) rfl rfl; have f3_ := HS.out.c 1 2 (v := .slice A l.length c) rfl rfl) | (go_at_call 52; refine (implIs d n A c l _ (HS.out.oldC HR.out) hc HB.out).mono ?_; rintro e_ w1 ⟨rfl, hb⟩; replace HS := sB HS hb; clear hb f1_ f2_ f3_) | ((with_reducible refine gate_store (t := 34) (p := 4) rfl ?_); refine stL HS 0 0 #[(.int .i64 0), (.int .i64 0)] rfl rfl rfl rfl rfl ?_; clear HS; intro w1 HS))
    refine bodyPost_ret (results_cell_tmp_row rfl _ _ g_r 34 #[(.int .i64 0), (.int .i64 0)] (0, 0) _ rfl (HS.out.at (i := 0) rfl) Try.underlying34 rfl (by kernel_rfl)) rfl ?_
    exact ⟨rfl, HS.out.below⟩
  | true =>
    have HX := Aside0.mk (isS_t h)
    have hlev := isS_l h
    obtain ⟨d, n, rfl, rfl, hd1, hd3, hn1, hn5⟩ := lev_nat hlev
    have HL := Aside0.mk hlev
    clear hlev
    rw [Int.toNat_natCast, Int.toNat_natCast] at HX
    cases hw : isWd d s && decide (s.size ≤ n) with
    | false =>
      have hnn : ¬ ((s.size : Int) ≤ n ∧ isWd (d : Int).toNat s = true) := fun h => by
        have h2 := h.2
        rw [Int.toNat_natCast] at h2
        have h1 : s.size ≤ n := by omega
        simp [h2, h1] at hw
      rw [if_pos rfl, if_neg hnn]
      clear hnn
      go_enter Try.func16, Try.ntmps16
      go_wp2_with (first | ((with_reducible refine gate_dst (N := 2) rfl ?_); refine bxL 26 #[.int .i64 (d : Int), .int .i64 (n : Int), .slice A l.length c] HS ?_; clear HS; intro g_x w1 hg_x HS) | ((with_reducible refine gate_dst (N := 4) rfl ?_); refine bxL 34 #[(.int .i64 0), (.int .i64 0)] HS ?_; clear HS; intro g_r w1 hg_r HS; have f1_ := HS.out.c 1 0 (v := .int .i64 (d : Int)) rfl rfl; have f2_ := HS.out.c 1 1 (v := .int .i64 (n : Int)) rfl rfl; have f3_ := HS.out.c 1 2 (v := .slice A l.length c) rfl rfl) | (go_at_call 52; refine (implIs d n A c l _ (HS.out.oldC HR.out) hc HB.out).mono ?_; rintro e_ w1 ⟨rfl, hb⟩; replace HS := sB HS hb; clear hb f1_ f2_ f3_; have f1_ := HS.out.c 1 0 (v := .int .i64 (d : Int)) rfl rfl; have f2_ := HS.out.c 1 1 (v := .int .i64 (n : Int)) rfl rfl) | (go_at_call 63; refine (implWord d n (by omega) s (by omega) _).mono ?_; rintro e_ w1 ⟨rfl, hb⟩; replace HS := sB HS hb; clear hb f1_ f2_) | ((with_reducible refine gate_store (t := 34) (p := 4) rfl ?_); refine stL HS 0 0 #[(.int .i64 0), (.int .i64 0)] rfl rfl rfl rfl rfl ?_; clear HS; intro w1 HS))
      refine bodyPost_ret (results_cell_tmp_row rfl _ _ g_r 34 #[(.int .i64 0), (.int .i64 0)] (0, 0) _ rfl (HS.out.at (i := 0) rfl) Try.underlying34 rfl (by kernel_rfl)) rfl ?_
      exact ⟨rfl, HS.out.below⟩
    | true =>
      have hw2 := hw
      rw [Bool.and_eq_true, decide_eq_true_eq] at hw2
      have HW := Aside0.mk hw2
      have hnn : (s.size : Int) ≤ n ∧ isWd (d : Int).toNat s = true := ⟨by omega, by rw [Int.toNat_natCast]; exact hw2.1⟩
      rw [if_pos rfl, if_pos hnn]
      clear hnn hw2
      go_enter Try.func16, Try.ntmps16
      go_wp2_with (first | ((with_reducible refine gate_dst (N := 2) rfl ?_); refine bxL 26 #[.int .i64 (d : Int), .int .i64 (n : Int), .slice A l.length c] HS ?_; clear HS; intro g_x w1 hg_x HS) | ((with_reducible refine gate_dst (N := 4) rfl ?_); refine bxL 34 #[(.int .i64 0), (.int .i64 0)] HS ?_; clear HS; intro g_r w1 hg_r HS; have f1_ := HS.out.c 1 0 (v := .int .i64 (d : Int)) rfl rfl; have f2_ := HS.out.c 1 1 (v := .int .i64 (n : Int)) rfl rfl; have f3_ := HS.out.c 1 2 (v := .slice A l.length c) rfl rfl) | (go_at_call 52; refine (implIs d n A c l _ (HS.out.oldC HR.out) hc HB.out).mono ?_; rintro e_ w1 ⟨rfl, hb⟩; replace HS := sB HS hb; clear hb f1_ f2_ f3_; have f1_ := HS.out.c 1 0 (v := .int .i64 (d : Int)) rfl rfl; have f2_ := HS.out.c 1 1 (v := .int .i64 (n : Int)) rfl rfl) | (go_at_call 63; refine (implWord d n (by omega) s (by omega) _).mono ?_; rintro e_ w1 ⟨rfl, hb⟩; replace HS := sB HS hb; clear hb f1_ f2_; have f1_ := HS.out.c 1 0 (v := .int .i64 (d : Int)) rfl rfl; have f2_ := HS.out.c 1 1 (v := .int .i64 (n : Int)) rfl rfl; have f3_ := HS.out.c 1 2 (v := .slice A l.length c) rfl rfl) | (go_at_call 64; refine (implOpen d n A c l _ HL.out (HS.out.oldC HR.out) HX.out).mono ?_; rintro e_ w1 ⟨g, v, rfl, hs⟩; replace HS := sN2 HS hs; clear hs f1_ f2_ f3_) | (go_at_call 65; refine (implAt g v d n false (co l) s _ HL.out (HS.out.at (i := 0) rfl) (HS.out.at (i := 1) rfl) HW.out.1 HW.out.2).mono ?_; rintro e_ w1 ⟨rfl, hb⟩; replace HS := sB HS hb; clear hb) | ((with_reducible refine gate_store (t := 34) (p := 4) rfl ?_); refine stL HS 2 0 #[.int .i64 (co l s).1, .int .i64 (co l s).2] rfl rfl rfl rfl rfl ?_; clear HS; intro w1 HS))
      refine bodyPost_ret (results_cell_tmp_row rfl _ _ g_r 34 #[.int .i64 (co l s).1, .int .i64 (co l s).2] (0, 0) _ rfl (HS.out.at (i := 2) rfl) Try.underlying34 rfl (by kernel_rfl)) rfl ?_
      exact ⟨rfl, HS.out.below⟩
end Go.Proofs.Ytibjkjhpfmmjoaa.H



