/- Products of tables: what the program's 'times' returns. Conditions: the bounds that stand in each statement. -/
import Derived.Test.YtaheikponfmdiaaKTable4
import Derived.Test.YtaheikponfmdiaaKTab
namespace Go.Proofs.Ytaheikponfmdiaa.H
open Go.RowKit Go.Proofs.YtaheikponfmdiaaW.PrintWords Go.Proofs.YtaheikponfmdiaaW.PrintLast Go.Proofs.YtaheikponfmdiaaW.PrintMore Go.Proofs.Ytaheikponfmdiaa.M
attribute [local go_sem] max2_int min2_int max_two min_two max_three min_three max_four min_four
set_option linter.unusedVariables false
set_option linter.unusedSimpArgs false
set_option maxRecDepth 100000
set_option maxHeartbeats 8000000 in
theorem implTimesTab (g1 v1 g2 v2 d n : Nat) (b1 b2 : Bool) (f1 f2 : ByteArray → Fr) (w : World) (hl : lev d n = true) (ht1 : (tS g1 v1 d n (nW d n) b1).I w) (hv1 : (tV v1 d n f1).I w) (ht2 : (tS g2 v2 d n (nW d n) b2).I w) (hv2 : (tV v2 d n f2).I w) (hf1 : good f1) (hf2 : good f2) :
    Calls Try.prog 137 #[.pointer (some ⟨g1, 0, none⟩), .pointer (some ⟨g2, 0, none⟩)] w fun e w' =>
      ∃ g' v', e = .returned (.pointer (some ⟨g', 0, none⟩)) ∧ Sep w w' [tS g' v' d n (nW d n) (timesT d n (f1, b1) (f2, b2)).2, tV v' d n (timesT d n (f1, b1) (f2, b2)).1] := by
  obtain ⟨hd1, hd3, hn1, hn5⟩ := lev_bd hl
  have hd9 : d ≤ 9 := by omega
  have hNl := nW_le hl
  have HT1 := Aside0.mk ht1
  have HV1 := Aside0.mk hv1
  have HT2 := Aside0.mk ht2
  have HV2 := Aside0.mk hv2
  have HL := Aside0.mk hl
  have HF1 := Aside0.mk hf1
  have HF2 := Aside0.mk hf2
  have HG := Aside0.mk (fun k (h : k < nW d n) => (⟨_, List.getElem?_eq_getElem h⟩ : ∃ s, (allW d n)[k]? = some s))
  clear ht1 hv1 ht2 hv2 hl hf1 hf2
  have HCK := Aside0.mk (fun W h => implLike g1 v1 d n (nW d n) b1 W HL.out h)
  have HA := Aside0.mk (fun W => implAllWords d n W hd3 hn5)
  have HW := Aside0.mk (fun (A : Option Addr) (W : World) (k : Nat) (h : Kd.string.C W A (allW d n).length (allW d n)) (hk : k < nW d n) => str_at h k hk)
  have HAT1 := Aside0.mk (fun W s k1 k2 k3 k4 => implAt g1 v1 d n b1 f1 s W HL.out k1 k2 k3 k4)
  have HAT2 := Aside0.mk (fun W s k1 k2 k3 k4 => implAt g2 v2 d n b2 f2 s W HL.out k1 k2 k3 k4)
  have HAD := Aside0.mk (fun g v (H : Tb) s a b W k1 k2 k3 k4 k5 k6 k7 => implAddTimes g v d n H.2 H.1 s a b W HL.out k1 k2 k3 k4 k5 k6 k7)
  have HEND := Aside0.mk (show timesT d n (f1, b1) (f2, b2) = addsT ((fun _ => (0, 1)), b1 || b2) (timesU f1 f2 ((allW d n).take (nW d n))) by rw [List.take_length]; rfl)
  obtain ⟨N, hN⟩ : ∃ N, N = nW d n := ⟨_, rfl⟩
  rw [← hN] at HT1 HT2 HG hNl HCK HAT1 HAT2 HAD HEND HW
  rw [← hN]
  rw [show (allW d n).length = N from hN.symm] at HA HW
  obtain ⟨l, hll⟩ : ∃ l, l = allW d n := ⟨_, rfl⟩
  have HL2 := Aside0.mk hll
  unfold rowS at HA
  rw [← hll] at HA HW
  have HLN := Aside0.mk (show l.length = N by rw [hll, hN])
  rw [HLN.out] at HA
  clear hN hll
  have HS := Aside0.mk (Sep.refl w)
  cases b1
  case' true =>
    go_enter Try.func137, Try.ntmps137
    go_wp2_with (first | (go_at_call 165; refine (HCK.out _ (HS.out.oldI HT1.out)).mono ?_; rintro e_ w1 ⟨g', v', rfl, hs⟩; replace HS := sN2 HS hs; clear hs; have f1_ := bx_c (HS.out.oldI HT1.out) 3 (v := .bool true) rfl) | ((with_reducible refine gate_store (t := 4) (p := 25) rfl ?_); refine stL HS 0 3 #[.int .i64 (d : Int), .int .i64 (n : Int), .slice (some ⟨v', 0, none⟩) N N, (.bool true)] rfl rfl rfl rfl rfl ?_; clear HS f1_; intro w1 HS))
    replace HS := sD HS
    refine ps (.p 0 (.p 1 (.p 2 (.p 4 (.p 5 (.p 6 (.p 10 (.t 3 (.t 7 (.d 8 (.p 9 .done))))))))))) (fun w' => w'.cell? ⟨g1, 0, none⟩ = some (.int .i64 (d : Int)) ∧ w'.cell? ⟨g1, 1, none⟩ = some (.int .i64 (n : Int))) [8] ⟨bx_c (HS.out.oldI HT1.out) 0 (v := .int .i64 (d : Int)) rfl, bx_c (HS.out.oldI HT1.out) 1 (v := .int .i64 (n : Int)) rfl⟩ (fun hHeld => ?_)
    repeat (first | ((with_reducible refine gate_p ?_); refine rp rfl rfl ?_) | ((with_reducible refine gate_t ?_); refine rt rfl rfl hHeld ?_))
    refine run_d rfl (fun K hK => ?_)
    refine gc Try.func123 (HA.out _) rfl rfl ?_
    rintro e_ w1 ⟨B, b, rfl, hs⟩
    refine ⟨_, rfl, ?_⟩
    replace HS := sN1 HS hs
    clear hs
    refine gd hK ?_
    clear hK K
    repeat (first | ((with_reducible refine gate_p ?_); refine rp rfl rfl ?_) | ((with_reducible refine gate_t ?_); refine rt rfl rfl hHeld ?_))
    refine run_done ?_
    clear hHeld
    go_wp2
  case' false =>
    go_enter Try.func137, Try.ntmps137
    go_wp2_with (first | (go_at_call 165; refine (HCK.out _ (HS.out.oldI HT1.out)).mono ?_; rintro e_ w1 ⟨g', v', rfl, hs⟩; replace HS := sN2 HS hs; clear hs; have f1_ := bx_c (HS.out.oldI HT1.out) 3 (v := .bool false) rfl; have f2_ := bx_c (HS.out.oldI HT2.out) 3 (v := .bool b2) rfl) | ((with_reducible refine gate_store (t := 4) (p := 25) rfl ?_); refine stL HS 0 3 #[.int .i64 (d : Int), .int .i64 (n : Int), .slice (some ⟨v', 0, none⟩) N N, (.bool b2)] rfl rfl rfl rfl rfl ?_; clear HS f1_ f2_; intro w1 HS))
    replace HS := sD HS
    refine ps (.p 0 (.p 1 (.p 2 (.p 4 (.p 5 (.p 6 (.p 10 (.t 3 (.t 7 (.d 8 (.p 9 .done))))))))))) (fun w' => w'.cell? ⟨g1, 0, none⟩ = some (.int .i64 (d : Int)) ∧ w'.cell? ⟨g1, 1, none⟩ = some (.int .i64 (n : Int))) [8] ⟨bx_c (HS.out.oldI HT1.out) 0 (v := .int .i64 (d : Int)) rfl, bx_c (HS.out.oldI HT1.out) 1 (v := .int .i64 (n : Int)) rfl⟩ (fun hHeld => ?_)
    repeat (first | ((with_reducible refine gate_p ?_); refine rp rfl rfl ?_) | ((with_reducible refine gate_t ?_); refine rt rfl rfl hHeld ?_))
    refine run_d rfl (fun K hK => ?_)
    refine gc Try.func123 (HA.out _) rfl rfl ?_
    rintro e_ w1 ⟨B, b, rfl, hs⟩
    refine ⟨_, rfl, ?_⟩
    replace HS := sN1 HS hs
    clear hs
    refine gd hK ?_
    clear hK K
    repeat (first | ((with_reducible refine gate_p ?_); refine rp rfl rfl ?_) | ((with_reducible refine gate_t ?_); refine rt rfl rfl hHeld ?_))
    refine run_done ?_
    clear hHeld
    go_wp2
  all_goals
    go_loopw [36] (fun q w' => ∃ (i : Nat) (H : Tb), i ≤ N ∧ q = .int .i64 (i : Int) ∧ Aside0 (H = addsT ((fun _ => (0, 1)), _) (timesU f1 f2 ((allW d n).take i))) ∧ Aside0 (good H.1) ∧ Aside0 (Mod w w' No [rw' Kd.string rfl 9 (.slice B N b) l, bx g' 132 #[.int .i64 (d : Int), .int .i64 (n : Int), .slice (some ⟨v', 0, none⟩) N N, .bool H.2], tV v' d n H.1])) (fun q _ => N - (intOf q).toNat)
    case atStart => exact ⟨0, ((fun _ => (0, 1)), _), by omega, rfl, ⟨rfl⟩, ⟨good_zero⟩, HS⟩
    case round =>
      clear HS
      obtain ⟨i, H, hi, rfl, HM, HGd, HS⟩ := hrel
      by_cases hlt : i < N
      · obtain ⟨s, hs⟩ := HG.out i hlt
        obtain ⟨ad, ea, h0_⟩ := HW.out B _ i (by have := HS.out.reads 0 rfl; rwa [HLN.out] at this) hlt
        cases ea
        have hs' : l.getD i ByteArray.empty = s := by rw [List.getD_eq_getElem?_getD, HL2.out, hs]; rfl
        rw [hs'] at h0_
        obtain ⟨hw1, hw2, _⟩ := num_at hd9 hs
        have HSW := Aside0.mk hw1
        have HTK := Aside0.mk (show (allW d n).take (i + 1) = (allW d n).take i ++ [s] by rw [List.take_add_one, hs]; rfl)
        have H0 := Aside0.mk h0_
        clear hs hs' h0_ hw1
        have f1_ := H0.out
        go_wp2
        clear H0
        go_loopw [43] (fun q w' => ∃ (k : Nat) (H' : Tb), k ≤ s.size + 1 ∧ q = .int .i64 (k : Int) ∧ Aside0 (H' = addsT H (cutU f1 f2 s k)) ∧ Aside0 (good H'.1) ∧ Aside0 (Mod w w' No [rw' Kd.string rfl 9 (.slice (some ad) N b) l, bx g' 132 #[.int .i64 (d : Int), .int .i64 (n : Int), .slice (some ⟨v', 0, none⟩) N N, .bool H'.2], tV v' d n H'.1])) (fun q _ => s.size + 1 - (intOf q).toNat)
        case atStart => exact ⟨0, H, by omega, rfl, ⟨rfl⟩, HGd, HS⟩
        case round =>
          clear HS
          obtain ⟨k, H', hk, rfl, HM2, HGd2, HS⟩ := hrel
          by_cases hkt : k < s.size + 1
          · have hks : k ≤ s.size := by omega
            have HX1 := Aside0.mk (wl_wd HSW.out k)
            have HX2 := Aside0.mk (wr_wd HSW.out k)
            have hy1 : (s.extract 0 k).size ≤ n := by rw [wl_size (by omega)]; omega
            have hy2 : (s.extract k s.size).size ≤ n := by rw [wr_size]; omega
            go_wp2
            replace HS := sD HS
            apply region_told ((fun (A0_ : Nat → Nat → Act) (a' : Act) (w' : World) => ∃ (g_a : Nat) (g_c : Nat), a' = A0_ g_a g_c ∧ Aside0 (Mod w w' No [bx g_c 35 #[.int .i64 (f2 (s.extract k s.size)).1, .int .i64 (f2 (s.extract k s.size)).2], bx g_a 35 #[.int .i64 (f1 (s.extract 0 k)).1, .int .i64 (f1 (s.extract 0 k)).2], rw' Kd.string rfl 9 (.slice (some ad) N b) l, bx g' 132 #[.int .i64 (d : Int), .int .i64 (n : Int), .slice (some ⟨v', 0, none⟩) N N, .bool H'.2], tV v' d n H'.1])) _)
            case h1 =>
              refine ps (.p 0 (.p 1 (.p 2 (.p 3 (.p 5 (.p 6 (.p 7 (.p 8 (.three 4 10 11 (.three 9 10 11 (.two 10 11 (.e 11 (.e 12 (.e 13 .done))) (.e 10 (.e 12 (.e 13 .done)))) (.two 9 11 (.e 11 (.e 12 (.e 13 .done))) (.e 9 (.e 12 (.e 13 .done)))) (.two 9 10 (.e 10 (.e 12 (.e 13 .done))) (.e 9 (.e 12 (.e 13 .done))))) (.two 4 11 (.two 9 11 (.e 11 (.e 12 (.e 13 .done))) (.e 9 (.e 12 (.e 13 .done)))) (.e 4 (.e 9 (.e 12 (.e 13 .done))))) (.two 4 10 (.two 9 10 (.e 10 (.e 12 (.e 13 .done))) (.e 9 (.e 12 (.e 13 .done)))) (.e 4 (.e 9 (.e 12 (.e 13 .done)))))))))))))) (fun w' => True) [] trivial (fun hHeld => ?_)
              repeat (first | ((with_reducible refine gate_p ?_); refine rp rfl rfl ?_))
              refine run_three ?_ ?_ ?_
              · skip
                refine run_e rfl (fun K hK => ?_)
                refine gc Try.func109 (HAT1.out _ (s.extract 0 k) (HS.out.oldI HT1.out) (HS.out.oldI HV1.out) HX1.out hy1) rfl rfl ?_
                rintro e_ w1 ⟨rfl, hb⟩
                refine ⟨_, rfl, ?_⟩
                replace HS := sB HS hb
                refine ge hK trivial (fun hHeld => ?_)
                refine run_three ?_ ?_ ?_
                · skip
                  refine run_e rfl (fun K hK => ?_)
                  refine gc Try.func109 (HAT2.out _ (s.extract k s.size) (HS.out.oldI HT2.out) (HS.out.oldI HV2.out) HX2.out hy2) rfl rfl ?_
                  rintro e_ w1 ⟨rfl, hb⟩
                  refine ⟨_, rfl, ?_⟩
                  replace HS := sB HS hb
                  refine ge hK trivial (fun hHeld => ?_)
                  refine run_two ?_ ?_
                  · skip
                    refine run_e rfl (fun K hK => ?_)
                    refine bx1 35 #[(.int .i64 0), (.int .i64 0)] HS ?_
                    intro g_a w1 hg_a HS
                    refine ge hK trivial (fun hHeld => ?_)
                    refine run_e rfl (fun K hK => ?_)
                    refine bx1 35 #[(.int .i64 0), (.int .i64 0)] HS ?_
                    intro g_c w1 hg_c HS
                    refine ge hK trivial (fun hHeld => ?_)
                    refine run_e rfl (fun K hK => ?_)
                    refine st1 HS 1 0 #[.int .i64 (f1 (s.extract 0 k)).1, .int .i64 (f1 (s.extract 0 k)).2] rfl rfl rfl rfl rfl ?_
                    intro w1 HS
                    refine goE hK trivial rfl (fun hHeld => ?_)
                    refine run_e rfl (fun K hK => ?_)
                    refine st1 HS 0 0 #[.int .i64 (f2 (s.extract k s.size)).1, .int .i64 (f2 (s.extract k s.size)).2] rfl rfl rfl rfl rfl ?_
                    intro w1 HS
                    refine goE hK trivial rfl (fun hHeld => ?_)
                    refine run_done ?_
                    exact ⟨g_a, g_c, rfl, HS⟩
                  · skip
                    refine run_e rfl (fun K hK => ?_)
                    refine bx1 35 #[(.int .i64 0), (.int .i64 0)] HS ?_
                    intro g_c w1 hg_c HS
                    refine ge hK trivial (fun hHeld => ?_)
                    refine run_e rfl (fun K hK => ?_)
                    refine bx1 35 #[(.int .i64 0), (.int .i64 0)] HS ?_
                    intro g_a w1 hg_a HS
                    refine ge hK trivial (fun hHeld => ?_)
                    refine run_e rfl (fun K hK => ?_)
                    refine st1 HS 0 0 #[.int .i64 (f1 (s.extract 0 k)).1, .int .i64 (f1 (s.extract 0 k)).2] rfl rfl rfl rfl rfl ?_
                    intro w1 HS
                    refine goE hK trivial rfl (fun hHeld => ?_)
                    refine run_e rfl (fun K hK => ?_)
                    refine st1 HS 1 0 #[.int .i64 (f2 (s.extract k s.size)).1, .int .i64 (f2 (s.extract k s.size)).2] rfl rfl rfl rfl rfl ?_
                    intro w1 HS
                    refine goE hK trivial rfl (fun hHeld => ?_)
                    refine run_done ?_
                    have n_ := HS.out.sel [1, 0, 2, 3, 4] (by decide)
                    simp only [List.filterMap_cons, List.filterMap_nil, List.getElem?_cons_zero, List.getElem?_cons_succ] at n_
                    exact ⟨g_a, g_c, rfl, ⟨n_⟩⟩
                · skip
                  refine run_e rfl (fun K hK => ?_)
                  refine bx1 35 #[(.int .i64 0), (.int .i64 0)] HS ?_
                  intro g_a w1 hg_a HS
                  refine ge hK trivial (fun hHeld => ?_)
                  refine run_two ?_ ?_
                  · skip
                    refine run_e rfl (fun K hK => ?_)
                    refine gc Try.func109 (HAT2.out _ (s.extract k s.size) (HS.out.oldI HT2.out) (HS.out.oldI HV2.out) HX2.out hy2) rfl rfl ?_
                    rintro e_ w1 ⟨rfl, hb⟩
                    refine ⟨_, rfl, ?_⟩
                    replace HS := sB HS hb
                    refine ge hK trivial (fun hHeld => ?_)
                    refine run_e rfl (fun K hK => ?_)
                    refine bx1 35 #[(.int .i64 0), (.int .i64 0)] HS ?_
                    intro g_c w1 hg_c HS
                    refine ge hK trivial (fun hHeld => ?_)
                    refine run_e rfl (fun K hK => ?_)
                    refine st1 HS 1 0 #[.int .i64 (f1 (s.extract 0 k)).1, .int .i64 (f1 (s.extract 0 k)).2] rfl rfl rfl rfl rfl ?_
                    intro w1 HS
                    refine goE hK trivial rfl (fun hHeld => ?_)
                    refine run_e rfl (fun K hK => ?_)
                    refine st1 HS 0 0 #[.int .i64 (f2 (s.extract k s.size)).1, .int .i64 (f2 (s.extract k s.size)).2] rfl rfl rfl rfl rfl ?_
                    intro w1 HS
                    refine goE hK trivial rfl (fun hHeld => ?_)
                    refine run_done ?_
                    have n_ := HS.out.sel [0, 1, 2, 3, 4] (by decide)
                    simp only [List.filterMap_cons, List.filterMap_nil, List.getElem?_cons_zero, List.getElem?_cons_succ] at n_
                    exact ⟨g_a, g_c, rfl, ⟨n_⟩⟩
                  · skip
                    refine run_e rfl (fun K hK => ?_)
                    refine bx1 35 #[(.int .i64 0), (.int .i64 0)] HS ?_
                    intro g_c w1 hg_c HS
                    refine ge hK trivial (fun hHeld => ?_)
                    refine run_e rfl (fun K hK => ?_)
                    refine gc Try.func109 (HAT2.out _ (s.extract k s.size) (HS.out.oldI HT2.out) (HS.out.oldI HV2.out) HX2.out hy2) rfl rfl ?_
                    rintro e_ w1 ⟨rfl, hb⟩
                    refine ⟨_, rfl, ?_⟩
                    replace HS := sB HS hb
                    refine ge hK trivial (fun hHeld => ?_)
                    refine run_e rfl (fun K hK => ?_)
                    refine st1 HS 1 0 #[.int .i64 (f1 (s.extract 0 k)).1, .int .i64 (f1 (s.extract 0 k)).2] rfl rfl rfl rfl rfl ?_
                    intro w1 HS
                    refine goE hK trivial rfl (fun hHeld => ?_)
                    refine run_e rfl (fun K hK => ?_)
                    refine st1 HS 0 0 #[.int .i64 (f2 (s.extract k s.size)).1, .int .i64 (f2 (s.extract k s.size)).2] rfl rfl rfl rfl rfl ?_
                    intro w1 HS
                    refine goE hK trivial rfl (fun hHeld => ?_)
                    refine run_done ?_
                    have n_ := HS.out.sel [0, 1, 2, 3, 4] (by decide)
                    simp only [List.filterMap_cons, List.filterMap_nil, List.getElem?_cons_zero, List.getElem?_cons_succ] at n_
                    exact ⟨g_a, g_c, rfl, ⟨n_⟩⟩
                · skip
                  refine run_e rfl (fun K hK => ?_)
                  refine bx1 35 #[(.int .i64 0), (.int .i64 0)] HS ?_
                  intro g_c w1 hg_c HS
                  refine ge hK trivial (fun hHeld => ?_)
                  refine run_two ?_ ?_
                  · skip
                    refine run_e rfl (fun K hK => ?_)
                    refine gc Try.func109 (HAT2.out _ (s.extract k s.size) (HS.out.oldI HT2.out) (HS.out.oldI HV2.out) HX2.out hy2) rfl rfl ?_
                    rintro e_ w1 ⟨rfl, hb⟩
                    refine ⟨_, rfl, ?_⟩
                    replace HS := sB HS hb
                    refine ge hK trivial (fun hHeld => ?_)
                    refine run_e rfl (fun K hK => ?_)
                    refine bx1 35 #[(.int .i64 0), (.int .i64 0)] HS ?_
                    intro g_a w1 hg_a HS
                    refine ge hK trivial (fun hHeld => ?_)
                    refine run_e rfl (fun K hK => ?_)
                    refine st1 HS 0 0 #[.int .i64 (f1 (s.extract 0 k)).1, .int .i64 (f1 (s.extract 0 k)).2] rfl rfl rfl rfl rfl ?_
                    intro w1 HS
                    refine goE hK trivial rfl (fun hHeld => ?_)
                    refine run_e rfl (fun K hK => ?_)
                    refine st1 HS 1 0 #[.int .i64 (f2 (s.extract k s.size)).1, .int .i64 (f2 (s.extract k s.size)).2] rfl rfl rfl rfl rfl ?_
                    intro w1 HS
                    refine goE hK trivial rfl (fun hHeld => ?_)
                    refine run_done ?_
                    have n_ := HS.out.sel [1, 0, 2, 3, 4] (by decide)
                    simp only [List.filterMap_cons, List.filterMap_nil, List.getElem?_cons_zero, List.getElem?_cons_succ] at n_
                    exact ⟨g_a, g_c, rfl, ⟨n_⟩⟩
                  · skip
                    refine run_e rfl (fun K hK => ?_)
                    refine bx1 35 #[(.int .i64 0), (.int .i64 0)] HS ?_
                    intro g_a w1 hg_a HS
                    refine ge hK trivial (fun hHeld => ?_)
                    refine run_e rfl (fun K hK => ?_)
                    refine gc Try.func109 (HAT2.out _ (s.extract k s.size) (HS.out.oldI HT2.out) (HS.out.oldI HV2.out) HX2.out hy2) rfl rfl ?_
                    rintro e_ w1 ⟨rfl, hb⟩
                    refine ⟨_, rfl, ?_⟩
                    replace HS := sB HS hb
                    refine ge hK trivial (fun hHeld => ?_)
                    refine run_e rfl (fun K hK => ?_)
                    refine st1 HS 0 0 #[.int .i64 (f1 (s.extract 0 k)).1, .int .i64 (f1 (s.extract 0 k)).2] rfl rfl rfl rfl rfl ?_
                    intro w1 HS
                    refine goE hK trivial rfl (fun hHeld => ?_)
                    refine run_e rfl (fun K hK => ?_)
                    refine st1 HS 1 0 #[.int .i64 (f2 (s.extract k s.size)).1, .int .i64 (f2 (s.extract k s.size)).2] rfl rfl rfl rfl rfl ?_
                    intro w1 HS
                    refine goE hK trivial rfl (fun hHeld => ?_)
                    refine run_done ?_
                    have n_ := HS.out.sel [1, 0, 2, 3, 4] (by decide)
                    simp only [List.filterMap_cons, List.filterMap_nil, List.getElem?_cons_zero, List.getElem?_cons_succ] at n_
                    exact ⟨g_a, g_c, rfl, ⟨n_⟩⟩
              · skip
                refine run_e rfl (fun K hK => ?_)
                refine bx1 35 #[(.int .i64 0), (.int .i64 0)] HS ?_
                intro g_a w1 hg_a HS
                refine ge hK trivial (fun hHeld => ?_)
                refine run_two ?_ ?_
                · skip
                  refine run_e rfl (fun K hK => ?_)
                  refine gc Try.func109 (HAT1.out _ (s.extract 0 k) (HS.out.oldI HT1.out) (HS.out.oldI HV1.out) HX1.out hy1) rfl rfl ?_
                  rintro e_ w1 ⟨rfl, hb⟩
                  refine ⟨_, rfl, ?_⟩
                  replace HS := sB HS hb
                  refine ge hK trivial (fun hHeld => ?_)
                  refine run_two ?_ ?_
                  · skip
                    refine run_e rfl (fun K hK => ?_)
                    refine gc Try.func109 (HAT2.out _ (s.extract k s.size) (HS.out.oldI HT2.out) (HS.out.oldI HV2.out) HX2.out hy2) rfl rfl ?_
                    rintro e_ w1 ⟨rfl, hb⟩
                    refine ⟨_, rfl, ?_⟩
                    replace HS := sB HS hb
                    refine ge hK trivial (fun hHeld => ?_)
                    refine run_e rfl (fun K hK => ?_)
                    refine bx1 35 #[(.int .i64 0), (.int .i64 0)] HS ?_
                    intro g_c w1 hg_c HS
                    refine ge hK trivial (fun hHeld => ?_)
                    refine run_e rfl (fun K hK => ?_)
                    refine st1 HS 1 0 #[.int .i64 (f1 (s.extract 0 k)).1, .int .i64 (f1 (s.extract 0 k)).2] rfl rfl rfl rfl rfl ?_
                    intro w1 HS
                    refine goE hK trivial rfl (fun hHeld => ?_)
                    refine run_e rfl (fun K hK => ?_)
                    refine st1 HS 0 0 #[.int .i64 (f2 (s.extract k s.size)).1, .int .i64 (f2 (s.extract k s.size)).2] rfl rfl rfl rfl rfl ?_
                    intro w1 HS
                    refine goE hK trivial rfl (fun hHeld => ?_)
                    refine run_done ?_
                    have n_ := HS.out.sel [0, 1, 2, 3, 4] (by decide)
                    simp only [List.filterMap_cons, List.filterMap_nil, List.getElem?_cons_zero, List.getElem?_cons_succ] at n_
                    exact ⟨g_a, g_c, rfl, ⟨n_⟩⟩
                  · skip
                    refine run_e rfl (fun K hK => ?_)
                    refine bx1 35 #[(.int .i64 0), (.int .i64 0)] HS ?_
                    intro g_c w1 hg_c HS
                    refine ge hK trivial (fun hHeld => ?_)
                    refine run_e rfl (fun K hK => ?_)
                    refine gc Try.func109 (HAT2.out _ (s.extract k s.size) (HS.out.oldI HT2.out) (HS.out.oldI HV2.out) HX2.out hy2) rfl rfl ?_
                    rintro e_ w1 ⟨rfl, hb⟩
                    refine ⟨_, rfl, ?_⟩
                    replace HS := sB HS hb
                    refine ge hK trivial (fun hHeld => ?_)
                    refine run_e rfl (fun K hK => ?_)
                    refine st1 HS 1 0 #[.int .i64 (f1 (s.extract 0 k)).1, .int .i64 (f1 (s.extract 0 k)).2] rfl rfl rfl rfl rfl ?_
                    intro w1 HS
                    refine goE hK trivial rfl (fun hHeld => ?_)
                    refine run_e rfl (fun K hK => ?_)
                    refine st1 HS 0 0 #[.int .i64 (f2 (s.extract k s.size)).1, .int .i64 (f2 (s.extract k s.size)).2] rfl rfl rfl rfl rfl ?_
                    intro w1 HS
                    refine goE hK trivial rfl (fun hHeld => ?_)
                    refine run_done ?_
                    have n_ := HS.out.sel [0, 1, 2, 3, 4] (by decide)
                    simp only [List.filterMap_cons, List.filterMap_nil, List.getElem?_cons_zero, List.getElem?_cons_succ] at n_
                    exact ⟨g_a, g_c, rfl, ⟨n_⟩⟩
                · skip
                  refine run_e rfl (fun K hK => ?_)
                  refine bx1 35 #[(.int .i64 0), (.int .i64 0)] HS ?_
                  intro g_c w1 hg_c HS
                  refine ge hK trivial (fun hHeld => ?_)
                  refine run_e rfl (fun K hK => ?_)
                  refine gc Try.func109 (HAT1.out _ (s.extract 0 k) (HS.out.oldI HT1.out) (HS.out.oldI HV1.out) HX1.out hy1) rfl rfl ?_
                  rintro e_ w1 ⟨rfl, hb⟩
                  refine ⟨_, rfl, ?_⟩
                  replace HS := sB HS hb
                  refine ge hK trivial (fun hHeld => ?_)
                  refine run_e rfl (fun K hK => ?_)
                  refine gc Try.func109 (HAT2.out _ (s.extract k s.size) (HS.out.oldI HT2.out) (HS.out.oldI HV2.out) HX2.out hy2) rfl rfl ?_
                  rintro e_ w1 ⟨rfl, hb⟩
                  refine ⟨_, rfl, ?_⟩
                  replace HS := sB HS hb
                  refine ge hK trivial (fun hHeld => ?_)
                  refine run_e rfl (fun K hK => ?_)
                  refine st1 HS 1 0 #[.int .i64 (f1 (s.extract 0 k)).1, .int .i64 (f1 (s.extract 0 k)).2] rfl rfl rfl rfl rfl ?_
                  intro w1 HS
                  refine goE hK trivial rfl (fun hHeld => ?_)
                  refine run_e rfl (fun K hK => ?_)
                  refine st1 HS 0 0 #[.int .i64 (f2 (s.extract k s.size)).1, .int .i64 (f2 (s.extract k s.size)).2] rfl rfl rfl rfl rfl ?_
                  intro w1 HS
                  refine goE hK trivial rfl (fun hHeld => ?_)
                  refine run_done ?_
                  have n_ := HS.out.sel [0, 1, 2, 3, 4] (by decide)
                  simp only [List.filterMap_cons, List.filterMap_nil, List.getElem?_cons_zero, List.getElem?_cons_succ] at n_
                  exact ⟨g_a, g_c, rfl, ⟨n_⟩⟩
              · skip
                refine run_e rfl (fun K hK => ?_)
                refine bx1 35 #[(.int .i64 0), (.int .i64 0)] HS ?_
                intro g_c w1 hg_c HS
                refine ge hK trivial (fun hHeld => ?_)
                refine run_two ?_ ?_
                · skip
                  refine run_e rfl (fun K hK => ?_)
                  refine gc Try.func109 (HAT1.out _ (s.extract 0 k) (HS.out.oldI HT1.out) (HS.out.oldI HV1.out) HX1.out hy1) rfl rfl ?_
                  rintro e_ w1 ⟨rfl, hb⟩
                  refine ⟨_, rfl, ?_⟩
                  replace HS := sB HS hb
                  refine ge hK trivial (fun hHeld => ?_)
                  refine run_two ?_ ?_
                  · skip
                    refine run_e rfl (fun K hK => ?_)
                    refine gc Try.func109 (HAT2.out _ (s.extract k s.size) (HS.out.oldI HT2.out) (HS.out.oldI HV2.out) HX2.out hy2) rfl rfl ?_
                    rintro e_ w1 ⟨rfl, hb⟩
                    refine ⟨_, rfl, ?_⟩
                    replace HS := sB HS hb
                    refine ge hK trivial (fun hHeld => ?_)
                    refine run_e rfl (fun K hK => ?_)
                    refine bx1 35 #[(.int .i64 0), (.int .i64 0)] HS ?_
                    intro g_a w1 hg_a HS
                    refine ge hK trivial (fun hHeld => ?_)
                    refine run_e rfl (fun K hK => ?_)
                    refine st1 HS 0 0 #[.int .i64 (f1 (s.extract 0 k)).1, .int .i64 (f1 (s.extract 0 k)).2] rfl rfl rfl rfl rfl ?_
                    intro w1 HS
                    refine goE hK trivial rfl (fun hHeld => ?_)
                    refine run_e rfl (fun K hK => ?_)
                    refine st1 HS 1 0 #[.int .i64 (f2 (s.extract k s.size)).1, .int .i64 (f2 (s.extract k s.size)).2] rfl rfl rfl rfl rfl ?_
                    intro w1 HS
                    refine goE hK trivial rfl (fun hHeld => ?_)
                    refine run_done ?_
                    have n_ := HS.out.sel [1, 0, 2, 3, 4] (by decide)
                    simp only [List.filterMap_cons, List.filterMap_nil, List.getElem?_cons_zero, List.getElem?_cons_succ] at n_
                    exact ⟨g_a, g_c, rfl, ⟨n_⟩⟩
                  · skip
                    refine run_e rfl (fun K hK => ?_)
                    refine bx1 35 #[(.int .i64 0), (.int .i64 0)] HS ?_
                    intro g_a w1 hg_a HS
                    refine ge hK trivial (fun hHeld => ?_)
                    refine run_e rfl (fun K hK => ?_)
                    refine gc Try.func109 (HAT2.out _ (s.extract k s.size) (HS.out.oldI HT2.out) (HS.out.oldI HV2.out) HX2.out hy2) rfl rfl ?_
                    rintro e_ w1 ⟨rfl, hb⟩
                    refine ⟨_, rfl, ?_⟩
                    replace HS := sB HS hb
                    refine ge hK trivial (fun hHeld => ?_)
                    refine run_e rfl (fun K hK => ?_)
                    refine st1 HS 0 0 #[.int .i64 (f1 (s.extract 0 k)).1, .int .i64 (f1 (s.extract 0 k)).2] rfl rfl rfl rfl rfl ?_
                    intro w1 HS
                    refine goE hK trivial rfl (fun hHeld => ?_)
                    refine run_e rfl (fun K hK => ?_)
                    refine st1 HS 1 0 #[.int .i64 (f2 (s.extract k s.size)).1, .int .i64 (f2 (s.extract k s.size)).2] rfl rfl rfl rfl rfl ?_
                    intro w1 HS
                    refine goE hK trivial rfl (fun hHeld => ?_)
                    refine run_done ?_
                    have n_ := HS.out.sel [1, 0, 2, 3, 4] (by decide)
                    simp only [List.filterMap_cons, List.filterMap_nil, List.getElem?_cons_zero, List.getElem?_cons_succ] at n_
                    exact ⟨g_a, g_c, rfl, ⟨n_⟩⟩
                · skip
                  refine run_e rfl (fun K hK => ?_)
                  refine bx1 35 #[(.int .i64 0), (.int .i64 0)] HS ?_
                  intro g_a w1 hg_a HS
                  refine ge hK trivial (fun hHeld => ?_)
                  refine run_e rfl (fun K hK => ?_)
                  refine gc Try.func109 (HAT1.out _ (s.extract 0 k) (HS.out.oldI HT1.out) (HS.out.oldI HV1.out) HX1.out hy1) rfl rfl ?_
                  rintro e_ w1 ⟨rfl, hb⟩
                  refine ⟨_, rfl, ?_⟩
                  replace HS := sB HS hb
                  refine ge hK trivial (fun hHeld => ?_)
                  refine run_e rfl (fun K hK => ?_)
                  refine gc Try.func109 (HAT2.out _ (s.extract k s.size) (HS.out.oldI HT2.out) (HS.out.oldI HV2.out) HX2.out hy2) rfl rfl ?_
                  rintro e_ w1 ⟨rfl, hb⟩
                  refine ⟨_, rfl, ?_⟩
                  replace HS := sB HS hb
                  refine ge hK trivial (fun hHeld => ?_)
                  refine run_e rfl (fun K hK => ?_)
                  refine st1 HS 0 0 #[.int .i64 (f1 (s.extract 0 k)).1, .int .i64 (f1 (s.extract 0 k)).2] rfl rfl rfl rfl rfl ?_
                  intro w1 HS
                  refine goE hK trivial rfl (fun hHeld => ?_)
                  refine run_e rfl (fun K hK => ?_)
                  refine st1 HS 1 0 #[.int .i64 (f2 (s.extract k s.size)).1, .int .i64 (f2 (s.extract k s.size)).2] rfl rfl rfl rfl rfl ?_
                  intro w1 HS
                  refine goE hK trivial rfl (fun hHeld => ?_)
                  refine run_done ?_
                  have n_ := HS.out.sel [1, 0, 2, 3, 4] (by decide)
                  simp only [List.filterMap_cons, List.filterMap_nil, List.getElem?_cons_zero, List.getElem?_cons_succ] at n_
                  exact ⟨g_a, g_c, rfl, ⟨n_⟩⟩
            clear HS
            rintro a_ w1 ⟨g_a, g_c, rfl, HS⟩
            by_cases hz1 : (f1 (s.extract 0 k)).1 = 0
            · have hb1 : ((f1 (s.extract 0 k)).1 != 0) = false := by rw [hz1]; rfl
              have HZ := Aside0.mk (cutU_skip (f := f1) (g := f2) (s := s) (k := k) (.inl hz1))
              clear hz1
              have f1_ := HS.out.c 1 0 (v := .int .i64 (f1 (s.extract 0 k)).1) rfl rfl
              go_wp2
              replace HS : Aside0 (Mod _ _ _ [_, _, _]) := sX HS [2, 3, 4]
              go_roundw
              case rel => exact ⟨k + 1, H', by omega, by go_num, ⟨by rw [HZ.out]; exact HM2.out⟩, HGd2, HS⟩
              case measure => simp [intOf]; omega
            · have hb1 : ((f1 (s.extract 0 k)).1 != 0) = true := by simpa using hz1
              by_cases hz2 : (f2 (s.extract k s.size)).1 = 0
              · have hb2 : ((f2 (s.extract k s.size)).1 != 0) = false := by rw [hz2]; rfl
                have HZ := Aside0.mk (cutU_skip (f := f1) (g := f2) (s := s) (k := k) (.inr hz2))
                clear hz1 hz2
                have f1_ := HS.out.c 1 0 (v := .int .i64 (f1 (s.extract 0 k)).1) rfl rfl
                have f2_ := HS.out.c 0 0 (v := .int .i64 (f2 (s.extract k s.size)).1) rfl rfl
                go_wp2
                replace HS : Aside0 (Mod _ _ _ [_, _, _]) := sX HS [2, 3, 4]
                go_roundw
                case rel => exact ⟨k + 1, H', by omega, by go_num, ⟨by rw [HZ.out]; exact HM2.out⟩, HGd2, HS⟩
                case measure => simp [intOf]; omega
              · have hb2 : ((f2 (s.extract k s.size)).1 != 0) = true := by simpa using hz2
                have HZ := Aside0.mk (cutU_take (f := f1) (g := f2) (s := s) (k := k) hz1 hz2)
                clear hz1 hz2
                have f1_ := HS.out.c 1 0 (v := .int .i64 (f1 (s.extract 0 k)).1) rfl rfl
                have f2_ := HS.out.c 0 0 (v := .int .i64 (f2 (s.extract k s.size)).1) rfl rfl
                have f3_ := HS.out.c 1 1 (v := .int .i64 (f1 (s.extract 0 k)).2) rfl rfl
                have f4_ := HS.out.c 0 1 (v := .int .i64 (f2 (s.extract k s.size)).2) rfl rfl
                go_wp2_with (first | (go_at_call 179; refine (HAD.out g' v' H' s (f1 (s.extract 0 k)) (f2 (s.extract k s.size)) _ (HS.out.at (i := 3) rfl) (HS.out.at (i := 4) rfl) HSW.out hw2 (HGd2.out _) (HF1.out _) (HF2.out _)).mono ?_; rintro e_ w1 ⟨rfl, hs⟩; replace HS : Aside0 (Mod _ _ _ [_, _, _, _, _]) := sM2 HS 3 4 [0, 1, 2] rfl rfl hs; clear hs f1_ f2_ f3_ f4_))
                go_roundw
                case rel => exact ⟨k + 1, addT (H'.1, H'.2) (s, mul (f1 (s.extract 0 k)) (f2 (s.extract k s.size))), by omega, by go_num, ⟨by rw [HZ.out]; unfold addsT; rw [List.foldl_append, show List.foldl addT H (cutU f1 f2 s k) = H' from HM2.out.symm]; rfl⟩, ⟨addT_good HGd2.out fun a ha => mul_fr ha⟩, sX HS [4, 0, 1]⟩
                case measure => simp [intOf]; omega
          · obtain rfl : k = s.size + 1 := by omega
            go_wp2
            go_roundw
            case rel => exact ⟨i + 1, H', by omega, by go_num, ⟨by rw [HTK.out, timesU_snoc]; unfold addsT; rw [List.foldl_append]; exact (show H' = addsT H (cutU f1 f2 s (s.size + 1)) from HM2.out).trans (by rw [HM.out]; rfl)⟩, HGd2, sX HS [0, 1, 2]⟩
            case measure => simp [intOf]; omega
      · obtain rfl : i = N := by omega
        go_wp2
        go_ret
        obtain rfl := HM.out
        exact ⟨g', v', rfl, HEND.out ▸ HS.out.sel [1, 2] (by decide)⟩
end Go.Proofs.Ytaheikponfmdiaa.H


