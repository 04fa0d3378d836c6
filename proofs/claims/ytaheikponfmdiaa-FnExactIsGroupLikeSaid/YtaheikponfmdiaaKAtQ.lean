/- The value at a shuffle: what the reference's l03At returns. Conditions: the bounds that stand in each statement. -/
import Derived.Test.YtaheikponfmdiaaKTold
import Derived.Test.YtaheikponfmdiaaKSh0
namespace Go.Proofs.Ytaheikponfmdiaa.H
open Go.RowKit Go.Proofs.YtaheikponfmdiaaW.PrintWords Go.Proofs.YtaheikponfmdiaaW.PrintLast Go.Proofs.YtaheikponfmdiaaW.PrintMore Go.Proofs.Ytaheikponfmdiaa.M
attribute [local go_sem] max2_int min2_int max_two min_two max_three min_three max_four min_four
set_option linter.unusedVariables false
set_option linter.unusedSimpArgs false
set_option maxRecDepth 100000
theorem shW_pos {d : Nat} {v w u : ByteArray} (h : u ∈ shW d v w) : 0 < shN v w u := of_decide_eq_true (List.mem_filter.1 h).2
set_option maxHeartbeats 8000000 in
theorem specAtQ (d n : Nat) (hd : d ≤ 3) (hn : n ≤ 5) (A : Option Addr) (c : Nat) (l : Ts) (v w : ByteArray) (W : World) (hr : KT.C W A l.length l) (hc : l.length ≤ c) (hx : isTs d n l = true) (hvw : v.size + w.size ≤ 5) :
    Calls Try.prog 96 #[.agg #[.int .i64 (d : Int), .int .i64 (n : Int), .slice A l.length c], .string v, .string w] W (RetFQ W (atS d l v w)) := by
  have HR := Aside0.mk hr
  have hll := (bnd_iff.1 (isTs_bnd hd hn hx)).1
  have HG := Aside0.mk (fun u => co_fr hx u)
  have HWD := Aside0.mk (fun X => specShW d v w X hd (by omega))
  have HSZ := Aside0.mk (fun (k : Nat) (s : ByteArray) (h : (shW d v w)[k]? = some s) => And.intro (shW_mem (d := d) (by omega) (List.mem_of_getElem? h)).1 (shW_pos (List.mem_of_getElem? h)))
  have hul : (shW d v w).length ≤ 6561 := by
    refine Nat.le_trans (List.length_filter_le _ _) ?_
    exact wordsN_le hd (by omega)
  have HPS := Aside0.mk (show atS d l v w = accS (atL l v w ((shW d v w).take (shW d v w).length)) by rw [List.take_length, ← atU_shW]; rfl)
  have HBD := Aside0.mk (fun i (h : accS (atL l v w ((shW d v w).take i)) = none) => at_bad h)
  obtain ⟨us, hus⟩ : ∃ us, us = shW d v w := ⟨_, rfl⟩
  rw [← hus] at HWD HSZ hul HPS HBD
  have HS := Aside0.mk (Sep.refl W)
  clear hr hx hus
  go_enter Try.func96, Try.ntmps96
  go_wp2_with (first | ((with_reducible refine gate_dst (N := 3) rfl ?_); refine bxL 24 #[.int .i64 (d : Int), .int .i64 (n : Int), .slice A l.length c] HS ?_; clear HS; intro g_x w1 hg_x HS) | ((with_reducible refine gate_dst (N := 6) rfl ?_); refine bxL 35 #[(.int .i64 0), (.int .i64 0)] HS ?_; clear HS; intro g_r w1 hg_r HS; have f1_ := HS.out.c 1 0 (v := .int .i64 (d : Int)) rfl rfl) | (go_at_call 82; refine (HWD.out _).mono ?_; rintro e_ w1 ⟨B1, b1, rfl, hs⟩; replace HS := sN1 HS hs; clear hs f1_) | ((with_reducible refine gate_dst (N := 8) rfl ?_); refine bxL 35 #[(.int .i64 0), (.int .i64 0)] HS ?_; clear HS; intro g_sm w1 hg_sm HS) | ((with_reducible refine gate_store (t := 35) (p := 8) rfl ?_); refine stL HS 0 0 #[(.int .i64 0), (.int .i64 1)] rfl rfl rfl rfl rfl ?_; clear HS; intro w1 HS))
  go_loopw [10] (fun q w' => ∃ (i : Nat) (e : Fr), i ≤ us.length ∧ q = .int .i64 (i : Int) ∧ Aside0 (accS (atL l v w (us.take i)) = some e) ∧ Aside0 (Mod W w' No [bx g_sm 35 #[.int .i64 e.1, .int .i64 e.2], rowS B1 b1 us, bx g_r 35 #[(.int .i64 0), (.int .i64 0)], bx g_x 24 #[.int .i64 (d : Int), .int .i64 (n : Int), .slice A l.length c]])) (fun q _ => us.length - (intOf q).toNat)
  case atStart => exact ⟨0, (0, 1), by omega, rfl, ⟨rfl⟩, HS⟩
  case round =>
    clear HS
    obtain ⟨i, e, hi, rfl, HE, HS⟩ := hrel
    have HFE := Aside0.mk (fr_small (acc_fr HE.out))
    by_cases hlt : i < us.length
    · obtain ⟨ad, ea, h_⟩ := str_at (HS.out.reads 1 rfl) i hlt
      clear h_
      cases ea
      obtain ⟨s, hs⟩ : ∃ s, us[i]? = some s := ⟨_, List.getElem?_eq_getElem hlt⟩
      have HEs := Aside0.mk hs
      obtain ⟨hs1, hs2⟩ := HSZ.out i s hs
      have hss : s.size ≤ 5 := by omega
      have HNX := Aside0.mk (atL_next (x := l) (v := v) (w := w) hs)
      have HNM := Aside0.mk (fun X => specNum v w s X (by omega) (by omega) (by omega))
      have hm3 := shN_le (v := v) (w := w) (u := s) (by omega)
      have HBF := Aside0.mk (HG.out s)
      obtain ⟨b, hb⟩ : ∃ b, b = co l s := ⟨_, rfl⟩
      have HV := Aside0.mk (fun X k1 => hb ▸ specValue d n A c l s X k1 hc hll)
      have hatz : b.1 = 0 → atE l v w s = [] := fun h => atE_skip (.inr (by rw [← hb]; exact h))
      have hatt : ¬ b.1 = 0 → atE l v w s = [mul b ((shN v w s : Nat), 1)] := fun h => by rw [hb]; exact atE_take (by have := hs2; show ¬ shN v w s = 0; omega) (by rw [← hb]; exact h)
      rw [← hb] at HBF
      clear hb
      have HAZ := Aside0.mk hatz
      have HAT := Aside0.mk hatt
      obtain ⟨m, hm⟩ : ∃ m, m = shN v w s := ⟨_, rfl⟩
      rw [← hm] at HNM HAT hm3
      clear hs hs1 hs2 hm hatz hatt
      by_cases hz : b.1 = 0
      · have hzb : (b.1 == 0) = true := by rw [hz]; rfl
        have HN := Aside0.mk (show accS (atL l v w (us.take (i + 1))) = some e by rw [HNX.out, HAZ.out hz, List.append_nil]; exact HE.out)
        clear hz
        go_wp2
        replace HS := sD HS
        apply region_told ((fun (A0_ : Nat → Act) (a' : Act) (w' : World) => ∃ (g_vb : Nat), a' = A0_ g_vb ∧ Aside0 (Mod W w' No [bx g_vb 35 #[.int .i64 b.1, .int .i64 b.2], bx g_sm 35 #[.int .i64 e.1, .int .i64 e.2], rowS (some ad) b1 us, bx g_r 35 #[(.int .i64 0), (.int .i64 0)], bx g_x 24 #[.int .i64 (d : Int), .int .i64 (n : Int), .slice A l.length c]])) _)
        case h1 =>
          refine ps (.p 1 (.p 2 (.p 3 (.t 0 (.t 4 (.two 5 6 (.e 6 (.d 7 .done)) (.e 5 (.d 7 .done)))))))) (fun w' => w'.cell? ⟨g_x, 0, none⟩ = some (.int .i64 (d : Int)) ∧ w'.cell? ⟨g_x, 1, none⟩ = some (.int .i64 (n : Int)) ∧ w'.cell? ⟨g_x, 2, none⟩ = some (.slice A l.length c) ∧ w'.cell? (ad.add i) = some (.string s)) [7] ⟨HS.out.c 3 0 (v := .int .i64 (d : Int)) rfl rfl, HS.out.c 3 1 (v := .int .i64 (n : Int)) rfl rfl, HS.out.c 3 2 (v := .slice A l.length c) rfl rfl, HS.out.str 1 rfl HEs.out⟩ (fun hHeld => ?_)
          repeat (first | ((with_reducible refine gate_p ?_); refine rp rfl rfl ?_) | ((with_reducible refine gate_t ?_); refine rt rfl rfl hHeld ?_))
          refine run_two ?_ ?_
          · skip
            refine run_e rfl (fun K hK => ?_)
            refine gc Try.func103 (HV.out _ (HS.out.oldC HR.out)) rfl rfl ?_
            rintro e_ w1 ⟨rfl, hb⟩
            refine ⟨_, rfl, ?_⟩
            replace HS := sB HS hb
            refine ge hK ⟨HS.out.c 3 0 (v := .int .i64 (d : Int)) rfl rfl, HS.out.c 3 1 (v := .int .i64 (n : Int)) rfl rfl, HS.out.c 3 2 (v := .slice A l.length c) rfl rfl, HS.out.str 1 rfl HEs.out⟩ (fun hHeld => ?_)
            refine run_e rfl (fun K hK => ?_)
            refine bx1 35 #[(.int .i64 0), (.int .i64 0)] HS ?_
            intro g_vb w1 hg_vb HS
            refine ge hK ⟨HS.out.c 4 0 (v := .int .i64 (d : Int)) rfl rfl, HS.out.c 4 1 (v := .int .i64 (n : Int)) rfl rfl, HS.out.c 4 2 (v := .slice A l.length c) rfl rfl, HS.out.str 2 rfl HEs.out⟩ (fun hHeld => ?_)
            refine run_d rfl (fun K hK => ?_)
            refine st1 HS 0 0 #[.int .i64 b.1, .int .i64 b.2] rfl rfl rfl rfl rfl ?_
            intro w1 HS
            refine goD hK rfl ?_
            refine run_done ?_
            exact ⟨g_vb, rfl, HS⟩
          · skip
            refine run_e rfl (fun K hK => ?_)
            refine bx1 35 #[(.int .i64 0), (.int .i64 0)] HS ?_
            intro g_vb w1 hg_vb HS
            refine ge hK ⟨HS.out.c 4 0 (v := .int .i64 (d : Int)) rfl rfl, HS.out.c 4 1 (v := .int .i64 (n : Int)) rfl rfl, HS.out.c 4 2 (v := .slice A l.length c) rfl rfl, HS.out.str 2 rfl HEs.out⟩ (fun hHeld => ?_)
            refine run_e rfl (fun K hK => ?_)
            refine gc Try.func103 (HV.out _ (HS.out.oldC HR.out)) rfl rfl ?_
            rintro e_ w1 ⟨rfl, hb⟩
            refine ⟨_, rfl, ?_⟩
            replace HS := sB HS hb
            refine ge hK ⟨HS.out.c 4 0 (v := .int .i64 (d : Int)) rfl rfl, HS.out.c 4 1 (v := .int .i64 (n : Int)) rfl rfl, HS.out.c 4 2 (v := .slice A l.length c) rfl rfl, HS.out.str 2 rfl HEs.out⟩ (fun hHeld => ?_)
            refine run_d rfl (fun K hK => ?_)
            refine st1 HS 0 0 #[.int .i64 b.1, .int .i64 b.2] rfl rfl rfl rfl rfl ?_
            intro w1 HS
            refine goD hK rfl ?_
            refine run_done ?_
            have n_ := HS.out.sel [0, 1, 2, 3, 4] (by decide)
            simp only [List.filterMap_cons, List.filterMap_nil, List.getElem?_cons_zero, List.getElem?_cons_succ] at n_
            exact ⟨g_vb, rfl, ⟨n_⟩⟩
        clear HS
        rintro a_ w1 ⟨g_vb, rfl, HS⟩
        have f1_ := HS.out.c 0 0 (v := .int .i64 b.1) rfl rfl
        have f2_ := HS.out.c 0 1 (v := .int .i64 b.2) rfl rfl
        go_wp2_with (first | (go_at_call 102; refine (specZero _ _ _).mono ?_; rintro e_ w1 ⟨rfl, hb⟩; replace HS := sB HS hb; clear hb f1_ f2_))
        replace HS : Aside0 (Mod _ _ _ [_, _, _, _]) := sX HS [1, 2, 3, 4]
        go_roundw
        case rel => exact ⟨i + 1, e, by omega, by go_num, HN, HS⟩
        case measure => simp [intOf]; omega
      · have hzb : (b.1 == 0) = false := by simpa using hz
        obtain ⟨o, ho⟩ : ∃ o, o = mul b ((m : Nat), 1) := ⟨_, rfl⟩
        have HP := Aside0.mk (fun X => ho ▸ specTimes b.1 b.2 (m : Int) 1 X (fr_small HBF.out) (by unfold small; omega))
        have HMF := Aside0.mk (fun q (hv : o = some q) => fr_small (mul_fr (ho.symm.trans hv)))
        have HN := Aside0.mk (show accS (atL l v w (us.take (i + 1))) = o.bind (add e) by rw [HNX.out, HAT.out hz, acc_snoc, HE.out, ho]; rfl)
        have HBAD := Aside0.mk (HBD.out (i + 1))
        clear hz ho
        cases o with
        | none =>
          go_wp2
          replace HS := sD HS
          apply region_told ((fun (A0_ : Nat → Act) (a' : Act) (w' : World) => ∃ (g_vb : Nat), a' = A0_ g_vb ∧ Aside0 (Mod W w' No [bx g_vb 35 #[.int .i64 b.1, .int .i64 b.2], bx g_sm 35 #[.int .i64 e.1, .int .i64 e.2], rowS (some ad) b1 us, bx g_r 35 #[(.int .i64 0), (.int .i64 0)], bx g_x 24 #[.int .i64 (d : Int), .int .i64 (n : Int), .slice A l.length c]])) _)
          case h1 =>
            refine ps (.p 1 (.p 2 (.p 3 (.t 0 (.t 4 (.two 5 6 (.e 6 (.d 7 .done)) (.e 5 (.d 7 .done)))))))) (fun w' => w'.cell? ⟨g_x, 0, none⟩ = some (.int .i64 (d : Int)) ∧ w'.cell? ⟨g_x, 1, none⟩ = some (.int .i64 (n : Int)) ∧ w'.cell? ⟨g_x, 2, none⟩ = some (.slice A l.length c) ∧ w'.cell? (ad.add i) = some (.string s)) [7] ⟨HS.out.c 3 0 (v := .int .i64 (d : Int)) rfl rfl, HS.out.c 3 1 (v := .int .i64 (n : Int)) rfl rfl, HS.out.c 3 2 (v := .slice A l.length c) rfl rfl, HS.out.str 1 rfl HEs.out⟩ (fun hHeld => ?_)
            repeat (first | ((with_reducible refine gate_p ?_); refine rp rfl rfl ?_) | ((with_reducible refine gate_t ?_); refine rt rfl rfl hHeld ?_))
            refine run_two ?_ ?_
            · skip
              refine run_e rfl (fun K hK => ?_)
              refine gc Try.func103 (HV.out _ (HS.out.oldC HR.out)) rfl rfl ?_
              rintro e_ w1 ⟨rfl, hb⟩
              refine ⟨_, rfl, ?_⟩
              replace HS := sB HS hb
              refine ge hK ⟨HS.out.c 3 0 (v := .int .i64 (d : Int)) rfl rfl, HS.out.c 3 1 (v := .int .i64 (n : Int)) rfl rfl, HS.out.c 3 2 (v := .slice A l.length c) rfl rfl, HS.out.str 1 rfl HEs.out⟩ (fun hHeld => ?_)
              refine run_e rfl (fun K hK => ?_)
              refine bx1 35 #[(.int .i64 0), (.int .i64 0)] HS ?_
              intro g_vb w1 hg_vb HS
              refine ge hK ⟨HS.out.c 4 0 (v := .int .i64 (d : Int)) rfl rfl, HS.out.c 4 1 (v := .int .i64 (n : Int)) rfl rfl, HS.out.c 4 2 (v := .slice A l.length c) rfl rfl, HS.out.str 2 rfl HEs.out⟩ (fun hHeld => ?_)
              refine run_d rfl (fun K hK => ?_)
              refine st1 HS 0 0 #[.int .i64 b.1, .int .i64 b.2] rfl rfl rfl rfl rfl ?_
              intro w1 HS
              refine goD hK rfl ?_
              refine run_done ?_
              exact ⟨g_vb, rfl, HS⟩
            · skip
              refine run_e rfl (fun K hK => ?_)
              refine bx1 35 #[(.int .i64 0), (.int .i64 0)] HS ?_
              intro g_vb w1 hg_vb HS
              refine ge hK ⟨HS.out.c 4 0 (v := .int .i64 (d : Int)) rfl rfl, HS.out.c 4 1 (v := .int .i64 (n : Int)) rfl rfl, HS.out.c 4 2 (v := .slice A l.length c) rfl rfl, HS.out.str 2 rfl HEs.out⟩ (fun hHeld => ?_)
              refine run_e rfl (fun K hK => ?_)
              refine gc Try.func103 (HV.out _ (HS.out.oldC HR.out)) rfl rfl ?_
              rintro e_ w1 ⟨rfl, hb⟩
              refine ⟨_, rfl, ?_⟩
              replace HS := sB HS hb
              refine ge hK ⟨HS.out.c 4 0 (v := .int .i64 (d : Int)) rfl rfl, HS.out.c 4 1 (v := .int .i64 (n : Int)) rfl rfl, HS.out.c 4 2 (v := .slice A l.length c) rfl rfl, HS.out.str 2 rfl HEs.out⟩ (fun hHeld => ?_)
              refine run_d rfl (fun K hK => ?_)
              refine st1 HS 0 0 #[.int .i64 b.1, .int .i64 b.2] rfl rfl rfl rfl rfl ?_
              intro w1 HS
              refine goD hK rfl ?_
              refine run_done ?_
              have n_ := HS.out.sel [0, 1, 2, 3, 4] (by decide)
              simp only [List.filterMap_cons, List.filterMap_nil, List.getElem?_cons_zero, List.getElem?_cons_succ] at n_
              exact ⟨g_vb, rfl, ⟨n_⟩⟩
          clear HS
          rintro a_ w1 ⟨g_vb, rfl, HS⟩
          have f1_ := HS.out.c 0 0 (v := .int .i64 b.1) rfl rfl
          have f2_ := HS.out.c 0 1 (v := .int .i64 b.2) rfl rfl
          go_wp2_with (first | (go_at_call 102; refine (specZero _ _ _).mono ?_; rintro e_ w1 ⟨rfl, hb⟩; replace HS := sB HS hb; clear hb f1_ f2_))
          replace HS := sD HS
          apply region_told ((fun (A0_ : Nat → Act) (a' : Act) (w' : World) => ∃ (g_pr : Nat), a' = A0_ g_pr ∧ Aside0 (Mod W w' No [bx g_pr 35 #[.int .i64 0, .int .i64 0], bx g_vb 35 #[.int .i64 b.1, .int .i64 b.2], bx g_sm 35 #[.int .i64 e.1, .int .i64 e.2], rowS (some ad) b1 us, bx g_r 35 #[(.int .i64 0), (.int .i64 0)], bx g_x 24 #[.int .i64 (d : Int), .int .i64 (n : Int), .slice A l.length c]])) _)
          case h1 =>
            refine ps (.p 1 (.p 2 (.p 3 (.p 4 (.p 5 (.t 0 (.t 6 (.two 7 13 (.p 8 (.two 9 13 (.p 10 (.p 11 (.p 12 (.e 13 (.d 14 (.p 15 .done)))))) (.e 9 (.p 10 (.p 11 (.p 12 (.d 14 (.p 15 .done)))))))) (.e 7 (.p 8 (.e 9 (.p 10 (.p 11 (.p 12 (.d 14 (.p 15 .done)))))))))))))))) (fun w' => w'.cell? ⟨g_vb, 0, none⟩ = some (.int .i64 b.1) ∧ w'.cell? ⟨g_vb, 1, none⟩ = some (.int .i64 b.2) ∧ w'.cell? (ad.add i) = some (.string s)) [14] ⟨HS.out.c 0 0 (v := .int .i64 b.1) rfl rfl, HS.out.c 0 1 (v := .int .i64 b.2) rfl rfl, HS.out.str 2 rfl HEs.out⟩ (fun hHeld => ?_)
            repeat (first | ((with_reducible refine gate_p ?_); refine rp rfl rfl ?_) | ((with_reducible refine gate_t ?_); refine rt rfl rfl hHeld ?_))
            refine run_two ?_ ?_
            · skip
              refine run_e rfl (fun K hK => ?_)
              refine gc Try.func83 (HNM.out _) rfl rfl ?_
              rintro e_ w1 ⟨rfl, hb⟩
              refine ⟨_, rfl, ?_⟩
              replace HS := sB HS hb
              refine ge hK ⟨HS.out.c 0 0 (v := .int .i64 b.1) rfl rfl, HS.out.c 0 1 (v := .int .i64 b.2) rfl rfl, HS.out.str 2 rfl HEs.out⟩ (fun hHeld => ?_)
              repeat (first | ((with_reducible refine gate_p ?_); refine rp rfl rfl ?_) | ((with_reducible refine gate_t ?_); refine rt rfl rfl hHeld ?_))
              refine run_two ?_ ?_
              · skip
                refine run_e rfl (fun K hK => ?_)
                refine gc Try.func161 (HP.out _) rfl rfl ?_
                rintro e_ w1 ⟨rfl, hb⟩
                refine ⟨_, rfl, ?_⟩
                replace HS := sB HS hb
                refine ge hK ⟨HS.out.c 0 0 (v := .int .i64 b.1) rfl rfl, HS.out.c 0 1 (v := .int .i64 b.2) rfl rfl, HS.out.str 2 rfl HEs.out⟩ (fun hHeld => ?_)
                repeat (first | ((with_reducible refine gate_p ?_); refine rp rfl rfl ?_) | ((with_reducible refine gate_t ?_); refine rt rfl rfl hHeld ?_))
                refine run_e rfl (fun K hK => ?_)
                refine bx1 35 #[(.int .i64 0), (.int .i64 0)] HS ?_
                intro g_pr w1 hg_pr HS
                refine ge hK ⟨HS.out.c 1 0 (v := .int .i64 b.1) rfl rfl, HS.out.c 1 1 (v := .int .i64 b.2) rfl rfl, HS.out.str 3 rfl HEs.out⟩ (fun hHeld => ?_)
                refine run_d rfl (fun K hK => ?_)
                refine st1 HS 0 0 #[.int .i64 0, .int .i64 0] rfl rfl rfl rfl rfl ?_
                intro w1 HS
                refine goD hK rfl ?_
                repeat (first | ((with_reducible refine gate_p ?_); refine rp rfl rfl ?_) | ((with_reducible refine gate_t ?_); refine rt rfl rfl hHeld ?_))
                refine run_done ?_
                exact ⟨g_pr, rfl, HS⟩
              · skip
                refine run_e rfl (fun K hK => ?_)
                refine bx1 35 #[(.int .i64 0), (.int .i64 0)] HS ?_
                intro g_pr w1 hg_pr HS
                refine ge hK ⟨HS.out.c 1 0 (v := .int .i64 b.1) rfl rfl, HS.out.c 1 1 (v := .int .i64 b.2) rfl rfl, HS.out.str 3 rfl HEs.out⟩ (fun hHeld => ?_)
                refine run_e rfl (fun K hK => ?_)
                refine gc Try.func161 (HP.out _) rfl rfl ?_
                rintro e_ w1 ⟨rfl, hb⟩
                refine ⟨_, rfl, ?_⟩
                replace HS := sB HS hb
                refine ge hK ⟨HS.out.c 1 0 (v := .int .i64 b.1) rfl rfl, HS.out.c 1 1 (v := .int .i64 b.2) rfl rfl, HS.out.str 3 rfl HEs.out⟩ (fun hHeld => ?_)
                repeat (first | ((with_reducible refine gate_p ?_); refine rp rfl rfl ?_) | ((with_reducible refine gate_t ?_); refine rt rfl rfl hHeld ?_))
                refine run_d rfl (fun K hK => ?_)
                refine st1 HS 0 0 #[.int .i64 0, .int .i64 0] rfl rfl rfl rfl rfl ?_
                intro w1 HS
                refine goD hK rfl ?_
                repeat (first | ((with_reducible refine gate_p ?_); refine rp rfl rfl ?_) | ((with_reducible refine gate_t ?_); refine rt rfl rfl hHeld ?_))
                refine run_done ?_
                have n_ := HS.out.sel [0, 1, 2, 3, 4, 5] (by decide)
                simp only [List.filterMap_cons, List.filterMap_nil, List.getElem?_cons_zero, List.getElem?_cons_succ] at n_
                exact ⟨g_pr, rfl, ⟨n_⟩⟩
            · skip
              refine run_e rfl (fun K hK => ?_)
              refine bx1 35 #[(.int .i64 0), (.int .i64 0)] HS ?_
              intro g_pr w1 hg_pr HS
              refine ge hK ⟨HS.out.c 1 0 (v := .int .i64 b.1) rfl rfl, HS.out.c 1 1 (v := .int .i64 b.2) rfl rfl, HS.out.str 3 rfl HEs.out⟩ (fun hHeld => ?_)
              refine run_e rfl (fun K hK => ?_)
              refine gc Try.func83 (HNM.out _) rfl rfl ?_
              rintro e_ w1 ⟨rfl, hb⟩
              refine ⟨_, rfl, ?_⟩
              replace HS := sB HS hb
              refine ge hK ⟨HS.out.c 1 0 (v := .int .i64 b.1) rfl rfl, HS.out.c 1 1 (v := .int .i64 b.2) rfl rfl, HS.out.str 3 rfl HEs.out⟩ (fun hHeld => ?_)
              repeat (first | ((with_reducible refine gate_p ?_); refine rp rfl rfl ?_) | ((with_reducible refine gate_t ?_); refine rt rfl rfl hHeld ?_))
              refine run_e rfl (fun K hK => ?_)
              refine gc Try.func161 (HP.out _) rfl rfl ?_
              rintro e_ w1 ⟨rfl, hb⟩
              refine ⟨_, rfl, ?_⟩
              replace HS := sB HS hb
              refine ge hK ⟨HS.out.c 1 0 (v := .int .i64 b.1) rfl rfl, HS.out.c 1 1 (v := .int .i64 b.2) rfl rfl, HS.out.str 3 rfl HEs.out⟩ (fun hHeld => ?_)
              repeat (first | ((with_reducible refine gate_p ?_); refine rp rfl rfl ?_) | ((with_reducible refine gate_t ?_); refine rt rfl rfl hHeld ?_))
              refine run_d rfl (fun K hK => ?_)
              refine st1 HS 0 0 #[.int .i64 0, .int .i64 0] rfl rfl rfl rfl rfl ?_
              intro w1 HS
              refine goD hK rfl ?_
              repeat (first | ((with_reducible refine gate_p ?_); refine rp rfl rfl ?_) | ((with_reducible refine gate_t ?_); refine rt rfl rfl hHeld ?_))
              refine run_done ?_
              have n_ := HS.out.sel [0, 1, 2, 3, 4, 5] (by decide)
              simp only [List.filterMap_cons, List.filterMap_nil, List.getElem?_cons_zero, List.getElem?_cons_succ] at n_
              exact ⟨g_pr, rfl, ⟨n_⟩⟩
          clear HS
          rintro a_ w1 ⟨g_pr, rfl, HS⟩
          go_wp2_with (first | ((with_reducible refine gate_store (t := 35) (p := 6) rfl ?_); refine stL HS 4 0 #[(.int .i64 0), (.int .i64 0)] rfl rfl rfl rfl rfl ?_; clear HS; intro w1 HS))
          refine bodyPost_ret (results_cell_tmp_row rfl _ _ g_r 35 #[(.int .i64 0), (.int .i64 0)] (0, 0) _ rfl (HS.out.at (i := 4) rfl) Try.underlying35 rfl (by kernel_rfl)) rfl ?_
          rw [HBAD.out HN.out]
          exact ⟨rfl, HS.out.below⟩
        | some q =>
          obtain ⟨f, hf⟩ : ∃ f, f = add e q := ⟨_, rfl⟩
          have HQ := Aside0.mk (fun X => hf ▸ specPlus e.1 e.2 q.1 q.2 X HFE.out (HMF.out q rfl))
          have HN2 := Aside0.mk (HN.out.trans (show (some q).bind (add e) = f from hf.symm))
          clear hf HN
          cases f with
          | none =>
            go_wp2
            replace HS := sD HS
            apply region_told ((fun (A0_ : Nat → Act) (a' : Act) (w' : World) => ∃ (g_vb : Nat), a' = A0_ g_vb ∧ Aside0 (Mod W w' No [bx g_vb 35 #[.int .i64 b.1, .int .i64 b.2], bx g_sm 35 #[.int .i64 e.1, .int .i64 e.2], rowS (some ad) b1 us, bx g_r 35 #[(.int .i64 0), (.int .i64 0)], bx g_x 24 #[.int .i64 (d : Int), .int .i64 (n : Int), .slice A l.length c]])) _)
            case h1 =>
              refine ps (.p 1 (.p 2 (.p 3 (.t 0 (.t 4 (.two 5 6 (.e 6 (.d 7 .done)) (.e 5 (.d 7 .done)))))))) (fun w' => w'.cell? ⟨g_x, 0, none⟩ = some (.int .i64 (d : Int)) ∧ w'.cell? ⟨g_x, 1, none⟩ = some (.int .i64 (n : Int)) ∧ w'.cell? ⟨g_x, 2, none⟩ = some (.slice A l.length c) ∧ w'.cell? (ad.add i) = some (.string s)) [7] ⟨HS.out.c 3 0 (v := .int .i64 (d : Int)) rfl rfl, HS.out.c 3 1 (v := .int .i64 (n : Int)) rfl rfl, HS.out.c 3 2 (v := .slice A l.length c) rfl rfl, HS.out.str 1 rfl HEs.out⟩ (fun hHeld => ?_)
              repeat (first | ((with_reducible refine gate_p ?_); refine rp rfl rfl ?_) | ((with_reducible refine gate_t ?_); refine rt rfl rfl hHeld ?_))
              refine run_two ?_ ?_
              · skip
                refine run_e rfl (fun K hK => ?_)
                refine gc Try.func103 (HV.out _ (HS.out.oldC HR.out)) rfl rfl ?_
                rintro e_ w1 ⟨rfl, hb⟩
                refine ⟨_, rfl, ?_⟩
                replace HS := sB HS hb
                refine ge hK ⟨HS.out.c 3 0 (v := .int .i64 (d : Int)) rfl rfl, HS.out.c 3 1 (v := .int .i64 (n : Int)) rfl rfl, HS.out.c 3 2 (v := .slice A l.length c) rfl rfl, HS.out.str 1 rfl HEs.out⟩ (fun hHeld => ?_)
                refine run_e rfl (fun K hK => ?_)
                refine bx1 35 #[(.int .i64 0), (.int .i64 0)] HS ?_
                intro g_vb w1 hg_vb HS
                refine ge hK ⟨HS.out.c 4 0 (v := .int .i64 (d : Int)) rfl rfl, HS.out.c 4 1 (v := .int .i64 (n : Int)) rfl rfl, HS.out.c 4 2 (v := .slice A l.length c) rfl rfl, HS.out.str 2 rfl HEs.out⟩ (fun hHeld => ?_)
                refine run_d rfl (fun K hK => ?_)
                refine st1 HS 0 0 #[.int .i64 b.1, .int .i64 b.2] rfl rfl rfl rfl rfl ?_
                intro w1 HS
                refine goD hK rfl ?_
                refine run_done ?_
                exact ⟨g_vb, rfl, HS⟩
              · skip
                refine run_e rfl (fun K hK => ?_)
                refine bx1 35 #[(.int .i64 0), (.int .i64 0)] HS ?_
                intro g_vb w1 hg_vb HS
                refine ge hK ⟨HS.out.c 4 0 (v := .int .i64 (d : Int)) rfl rfl, HS.out.c 4 1 (v := .int .i64 (n : Int)) rfl rfl, HS.out.c 4 2 (v := .slice A l.length c) rfl rfl, HS.out.str 2 rfl HEs.out⟩ (fun hHeld => ?_)
                refine run_e rfl (fun K hK => ?_)
                refine gc Try.func103 (HV.out _ (HS.out.oldC HR.out)) rfl rfl ?_
                rintro e_ w1 ⟨rfl, hb⟩
                refine ⟨_, rfl, ?_⟩
                replace HS := sB HS hb
                refine ge hK ⟨HS.out.c 4 0 (v := .int .i64 (d : Int)) rfl rfl, HS.out.c 4 1 (v := .int .i64 (n : Int)) rfl rfl, HS.out.c 4 2 (v := .slice A l.length c) rfl rfl, HS.out.str 2 rfl HEs.out⟩ (fun hHeld => ?_)
                refine run_d rfl (fun K hK => ?_)
                refine st1 HS 0 0 #[.int .i64 b.1, .int .i64 b.2] rfl rfl rfl rfl rfl ?_
                intro w1 HS
                refine goD hK rfl ?_
                refine run_done ?_
                have n_ := HS.out.sel [0, 1, 2, 3, 4] (by decide)
                simp only [List.filterMap_cons, List.filterMap_nil, List.getElem?_cons_zero, List.getElem?_cons_succ] at n_
                exact ⟨g_vb, rfl, ⟨n_⟩⟩
            clear HS
            rintro a_ w1 ⟨g_vb, rfl, HS⟩
            have f1_ := HS.out.c 0 0 (v := .int .i64 b.1) rfl rfl
            have f2_ := HS.out.c 0 1 (v := .int .i64 b.2) rfl rfl
            go_wp2_with (first | (go_at_call 102; refine (specZero _ _ _).mono ?_; rintro e_ w1 ⟨rfl, hb⟩; replace HS := sB HS hb; clear hb f1_ f2_))
            replace HS := sD HS
            apply region_told ((fun (A0_ : Nat → Act) (a' : Act) (w' : World) => ∃ (g_pr : Nat), a' = A0_ g_pr ∧ Aside0 (Mod W w' No [bx g_pr 35 #[.int .i64 q.1, .int .i64 q.2], bx g_vb 35 #[.int .i64 b.1, .int .i64 b.2], bx g_sm 35 #[.int .i64 e.1, .int .i64 e.2], rowS (some ad) b1 us, bx g_r 35 #[(.int .i64 0), (.int .i64 0)], bx g_x 24 #[.int .i64 (d : Int), .int .i64 (n : Int), .slice A l.length c]])) _)
            case h1 =>
              refine ps (.p 1 (.p 2 (.p 3 (.p 4 (.p 5 (.t 0 (.t 6 (.two 7 13 (.p 8 (.two 9 13 (.p 10 (.p 11 (.p 12 (.e 13 (.d 14 (.p 15 .done)))))) (.e 9 (.p 10 (.p 11 (.p 12 (.d 14 (.p 15 .done)))))))) (.e 7 (.p 8 (.e 9 (.p 10 (.p 11 (.p 12 (.d 14 (.p 15 .done)))))))))))))))) (fun w' => w'.cell? ⟨g_vb, 0, none⟩ = some (.int .i64 b.1) ∧ w'.cell? ⟨g_vb, 1, none⟩ = some (.int .i64 b.2) ∧ w'.cell? (ad.add i) = some (.string s)) [14] ⟨HS.out.c 0 0 (v := .int .i64 b.1) rfl rfl, HS.out.c 0 1 (v := .int .i64 b.2) rfl rfl, HS.out.str 2 rfl HEs.out⟩ (fun hHeld => ?_)
              repeat (first | ((with_reducible refine gate_p ?_); refine rp rfl rfl ?_) | ((with_reducible refine gate_t ?_); refine rt rfl rfl hHeld ?_))
              refine run_two ?_ ?_
              · skip
                refine run_e rfl (fun K hK => ?_)
                refine gc Try.func83 (HNM.out _) rfl rfl ?_
                rintro e_ w1 ⟨rfl, hb⟩
                refine ⟨_, rfl, ?_⟩
                replace HS := sB HS hb
                refine ge hK ⟨HS.out.c 0 0 (v := .int .i64 b.1) rfl rfl, HS.out.c 0 1 (v := .int .i64 b.2) rfl rfl, HS.out.str 2 rfl HEs.out⟩ (fun hHeld => ?_)
                repeat (first | ((with_reducible refine gate_p ?_); refine rp rfl rfl ?_) | ((with_reducible refine gate_t ?_); refine rt rfl rfl hHeld ?_))
                refine run_two ?_ ?_
                · skip
                  refine run_e rfl (fun K hK => ?_)
                  refine gc Try.func161 (HP.out _) rfl rfl ?_
                  rintro e_ w1 ⟨rfl, hb⟩
                  refine ⟨_, rfl, ?_⟩
                  replace HS := sB HS hb
                  refine ge hK ⟨HS.out.c 0 0 (v := .int .i64 b.1) rfl rfl, HS.out.c 0 1 (v := .int .i64 b.2) rfl rfl, HS.out.str 2 rfl HEs.out⟩ (fun hHeld => ?_)
                  repeat (first | ((with_reducible refine gate_p ?_); refine rp rfl rfl ?_) | ((with_reducible refine gate_t ?_); refine rt rfl rfl hHeld ?_))
                  refine run_e rfl (fun K hK => ?_)
                  refine bx1 35 #[(.int .i64 0), (.int .i64 0)] HS ?_
                  intro g_pr w1 hg_pr HS
                  refine ge hK ⟨HS.out.c 1 0 (v := .int .i64 b.1) rfl rfl, HS.out.c 1 1 (v := .int .i64 b.2) rfl rfl, HS.out.str 3 rfl HEs.out⟩ (fun hHeld => ?_)
                  refine run_d rfl (fun K hK => ?_)
                  refine st1 HS 0 0 #[.int .i64 q.1, .int .i64 q.2] rfl rfl rfl rfl rfl ?_
                  intro w1 HS
                  refine goD hK rfl ?_
                  repeat (first | ((with_reducible refine gate_p ?_); refine rp rfl rfl ?_) | ((with_reducible refine gate_t ?_); refine rt rfl rfl hHeld ?_))
                  refine run_done ?_
                  exact ⟨g_pr, rfl, HS⟩
                · skip
                  refine run_e rfl (fun K hK => ?_)
                  refine bx1 35 #[(.int .i64 0), (.int .i64 0)] HS ?_
                  intro g_pr w1 hg_pr HS
                  refine ge hK ⟨HS.out.c 1 0 (v := .int .i64 b.1) rfl rfl, HS.out.c 1 1 (v := .int .i64 b.2) rfl rfl, HS.out.str 3 rfl HEs.out⟩ (fun hHeld => ?_)
                  refine run_e rfl (fun K hK => ?_)
                  refine gc Try.func161 (HP.out _) rfl rfl ?_
                  rintro e_ w1 ⟨rfl, hb⟩
                  refine ⟨_, rfl, ?_⟩
                  replace HS := sB HS hb
                  refine ge hK ⟨HS.out.c 1 0 (v := .int .i64 b.1) rfl rfl, HS.out.c 1 1 (v := .int .i64 b.2) rfl rfl, HS.out.str 3 rfl HEs.out⟩ (fun hHeld => ?_)
                  repeat (first | ((with_reducible refine gate_p ?_); refine rp rfl rfl ?_) | ((with_reducible refine gate_t ?_); refine rt rfl rfl hHeld ?_))
                  refine run_d rfl (fun K hK => ?_)
                  refine st1 HS 0 0 #[.int .i64 q.1, .int .i64 q.2] rfl rfl rfl rfl rfl ?_
                  intro w1 HS
                  refine goD hK rfl ?_
                  repeat (first | ((with_reducible refine gate_p ?_); refine rp rfl rfl ?_) | ((with_reducible refine gate_t ?_); refine rt rfl rfl hHeld ?_))
                  refine run_done ?_
                  have n_ := HS.out.sel [0, 1, 2, 3, 4, 5] (by decide)
                  simp only [List.filterMap_cons, List.filterMap_nil, List.getElem?_cons_zero, List.getElem?_cons_succ] at n_
                  exact ⟨g_pr, rfl, ⟨n_⟩⟩
              · skip
                refine run_e rfl (fun K hK => ?_)
                refine bx1 35 #[(.int .i64 0), (.int .i64 0)] HS ?_
                intro g_pr w1 hg_pr HS
                refine ge hK ⟨HS.out.c 1 0 (v := .int .i64 b.1) rfl rfl, HS.out.c 1 1 (v := .int .i64 b.2) rfl rfl, HS.out.str 3 rfl HEs.out⟩ (fun hHeld => ?_)
                refine run_e rfl (fun K hK => ?_)
                refine gc Try.func83 (HNM.out _) rfl rfl ?_
                rintro e_ w1 ⟨rfl, hb⟩
                refine ⟨_, rfl, ?_⟩
                replace HS := sB HS hb
                refine ge hK ⟨HS.out.c 1 0 (v := .int .i64 b.1) rfl rfl, HS.out.c 1 1 (v := .int .i64 b.2) rfl rfl, HS.out.str 3 rfl HEs.out⟩ (fun hHeld => ?_)
                repeat (first | ((with_reducible refine gate_p ?_); refine rp rfl rfl ?_) | ((with_reducible refine gate_t ?_); refine rt rfl rfl hHeld ?_))
                refine run_e rfl (fun K hK => ?_)
                refine gc Try.func161 (HP.out _) rfl rfl ?_
                rintro e_ w1 ⟨rfl, hb⟩
                refine ⟨_, rfl, ?_⟩
                replace HS := sB HS hb
                refine ge hK ⟨HS.out.c 1 0 (v := .int .i64 b.1) rfl rfl, HS.out.c 1 1 (v := .int .i64 b.2) rfl rfl, HS.out.str 3 rfl HEs.out⟩ (fun hHeld => ?_)
                repeat (first | ((with_reducible refine gate_p ?_); refine rp rfl rfl ?_) | ((with_reducible refine gate_t ?_); refine rt rfl rfl hHeld ?_))
                refine run_d rfl (fun K hK => ?_)
                refine st1 HS 0 0 #[.int .i64 q.1, .int .i64 q.2] rfl rfl rfl rfl rfl ?_
                intro w1 HS
                refine goD hK rfl ?_
                repeat (first | ((with_reducible refine gate_p ?_); refine rp rfl rfl ?_) | ((with_reducible refine gate_t ?_); refine rt rfl rfl hHeld ?_))
                refine run_done ?_
                have n_ := HS.out.sel [0, 1, 2, 3, 4, 5] (by decide)
                simp only [List.filterMap_cons, List.filterMap_nil, List.getElem?_cons_zero, List.getElem?_cons_succ] at n_
                exact ⟨g_pr, rfl, ⟨n_⟩⟩
            clear HS
            rintro a_ w1 ⟨g_pr, rfl, HS⟩
            have f1_ := HS.out.c 2 0 (v := .int .i64 e.1) rfl rfl
            have f2_ := HS.out.c 2 1 (v := .int .i64 e.2) rfl rfl
            have f3_ := HS.out.c 0 0 (v := .int .i64 q.1) rfl rfl
            have f4_ := HS.out.c 0 1 (v := .int .i64 q.2) rfl rfl
            go_wp2_with (first | (go_at_call 162; refine (HQ.out _).mono ?_; rintro e_ w1 ⟨rfl, hb⟩; replace HS := sB HS hb; clear hb f1_ f2_ f3_ f4_) | ((with_reducible refine gate_dst (N := 14) rfl ?_); refine bxL 35 #[(.int .i64 0), (.int .i64 0)] HS ?_; clear HS; intro g_nx w1 hg_nx HS) | ((with_reducible refine gate_store (t := 35) (p := 14) rfl ?_); refine stL HS 0 0 #[.int .i64 0, .int .i64 0] rfl rfl rfl rfl rfl ?_; clear HS; intro w1 HS) | ((with_reducible refine gate_store (t := 35) (p := 6) rfl ?_); refine stL HS 5 0 #[(.int .i64 0), (.int .i64 0)] rfl rfl rfl rfl rfl ?_; clear HS; intro w1 HS))
            refine bodyPost_ret (results_cell_tmp_row rfl _ _ g_r 35 #[(.int .i64 0), (.int .i64 0)] (0, 0) _ rfl (HS.out.at (i := 5) rfl) Try.underlying35 rfl (by kernel_rfl)) rfl ?_
            rw [HBAD.out HN2.out]
            exact ⟨rfl, HS.out.below⟩
          | some f =>
            go_wp2
            replace HS := sD HS
            apply region_told ((fun (A0_ : Nat → Act) (a' : Act) (w' : World) => ∃ (g_vb : Nat), a' = A0_ g_vb ∧ Aside0 (Mod W w' No [bx g_vb 35 #[.int .i64 b.1, .int .i64 b.2], bx g_sm 35 #[.int .i64 e.1, .int .i64 e.2], rowS (some ad) b1 us, bx g_r 35 #[(.int .i64 0), (.int .i64 0)], bx g_x 24 #[.int .i64 (d : Int), .int .i64 (n : Int), .slice A l.length c]])) _)
            case h1 =>
              refine ps (.p 1 (.p 2 (.p 3 (.t 0 (.t 4 (.two 5 6 (.e 6 (.d 7 .done)) (.e 5 (.d 7 .done)))))))) (fun w' => w'.cell? ⟨g_x, 0, none⟩ = some (.int .i64 (d : Int)) ∧ w'.cell? ⟨g_x, 1, none⟩ = some (.int .i64 (n : Int)) ∧ w'.cell? ⟨g_x, 2, none⟩ = some (.slice A l.length c) ∧ w'.cell? (ad.add i) = some (.string s)) [7] ⟨HS.out.c 3 0 (v := .int .i64 (d : Int)) rfl rfl, HS.out.c 3 1 (v := .int .i64 (n : Int)) rfl rfl, HS.out.c 3 2 (v := .slice A l.length c) rfl rfl, HS.out.str 1 rfl HEs.out⟩ (fun hHeld => ?_)
              repeat (first | ((with_reducible refine gate_p ?_); refine rp rfl rfl ?_) | ((with_reducible refine gate_t ?_); refine rt rfl rfl hHeld ?_))
              refine run_two ?_ ?_
              · skip
                refine run_e rfl (fun K hK => ?_)
                refine gc Try.func103 (HV.out _ (HS.out.oldC HR.out)) rfl rfl ?_
                rintro e_ w1 ⟨rfl, hb⟩
                refine ⟨_, rfl, ?_⟩
                replace HS := sB HS hb
                refine ge hK ⟨HS.out.c 3 0 (v := .int .i64 (d : Int)) rfl rfl, HS.out.c 3 1 (v := .int .i64 (n : Int)) rfl rfl, HS.out.c 3 2 (v := .slice A l.length c) rfl rfl, HS.out.str 1 rfl HEs.out⟩ (fun hHeld => ?_)
                refine run_e rfl (fun K hK => ?_)
                refine bx1 35 #[(.int .i64 0), (.int .i64 0)] HS ?_
                intro g_vb w1 hg_vb HS
                refine ge hK ⟨HS.out.c 4 0 (v := .int .i64 (d : Int)) rfl rfl, HS.out.c 4 1 (v := .int .i64 (n : Int)) rfl rfl, HS.out.c 4 2 (v := .slice A l.length c) rfl rfl, HS.out.str 2 rfl HEs.out⟩ (fun hHeld => ?_)
                refine run_d rfl (fun K hK => ?_)
                refine st1 HS 0 0 #[.int .i64 b.1, .int .i64 b.2] rfl rfl rfl rfl rfl ?_
                intro w1 HS
                refine goD hK rfl ?_
                refine run_done ?_
                exact ⟨g_vb, rfl, HS⟩
              · skip
                refine run_e rfl (fun K hK => ?_)
                refine bx1 35 #[(.int .i64 0), (.int .i64 0)] HS ?_
                intro g_vb w1 hg_vb HS
                refine ge hK ⟨HS.out.c 4 0 (v := .int .i64 (d : Int)) rfl rfl, HS.out.c 4 1 (v := .int .i64 (n : Int)) rfl rfl, HS.out.c 4 2 (v := .slice A l.length c) rfl rfl, HS.out.str 2 rfl HEs.out⟩ (fun hHeld => ?_)
                refine run_e rfl (fun K hK => ?_)
                refine gc Try.func103 (HV.out _ (HS.out.oldC HR.out)) rfl rfl ?_
                rintro e_ w1 ⟨rfl, hb⟩
                refine ⟨_, rfl, ?_⟩
                replace HS := sB HS hb
                refine ge hK ⟨HS.out.c 4 0 (v := .int .i64 (d : Int)) rfl rfl, HS.out.c 4 1 (v := .int .i64 (n : Int)) rfl rfl, HS.out.c 4 2 (v := .slice A l.length c) rfl rfl, HS.out.str 2 rfl HEs.out⟩ (fun hHeld => ?_)
                refine run_d rfl (fun K hK => ?_)
                refine st1 HS 0 0 #[.int .i64 b.1, .int .i64 b.2] rfl rfl rfl rfl rfl ?_
                intro w1 HS
                refine goD hK rfl ?_
                refine run_done ?_
                have n_ := HS.out.sel [0, 1, 2, 3, 4] (by decide)
                simp only [List.filterMap_cons, List.filterMap_nil, List.getElem?_cons_zero, List.getElem?_cons_succ] at n_
                exact ⟨g_vb, rfl, ⟨n_⟩⟩
            clear HS
            rintro a_ w1 ⟨g_vb, rfl, HS⟩
            have f1_ := HS.out.c 0 0 (v := .int .i64 b.1) rfl rfl
            have f2_ := HS.out.c 0 1 (v := .int .i64 b.2) rfl rfl
            go_wp2_with (first | (go_at_call 102; refine (specZero _ _ _).mono ?_; rintro e_ w1 ⟨rfl, hb⟩; replace HS := sB HS hb; clear hb f1_ f2_))
            replace HS := sD HS
            apply region_told ((fun (A0_ : Nat → Act) (a' : Act) (w' : World) => ∃ (g_pr : Nat), a' = A0_ g_pr ∧ Aside0 (Mod W w' No [bx g_pr 35 #[.int .i64 q.1, .int .i64 q.2], bx g_vb 35 #[.int .i64 b.1, .int .i64 b.2], bx g_sm 35 #[.int .i64 e.1, .int .i64 e.2], rowS (some ad) b1 us, bx g_r 35 #[(.int .i64 0), (.int .i64 0)], bx g_x 24 #[.int .i64 (d : Int), .int .i64 (n : Int), .slice A l.length c]])) _)
            case h1 =>
              refine ps (.p 1 (.p 2 (.p 3 (.p 4 (.p 5 (.t 0 (.t 6 (.two 7 13 (.p 8 (.two 9 13 (.p 10 (.p 11 (.p 12 (.e 13 (.d 14 (.p 15 .done)))))) (.e 9 (.p 10 (.p 11 (.p 12 (.d 14 (.p 15 .done)))))))) (.e 7 (.p 8 (.e 9 (.p 10 (.p 11 (.p 12 (.d 14 (.p 15 .done)))))))))))))))) (fun w' => w'.cell? ⟨g_vb, 0, none⟩ = some (.int .i64 b.1) ∧ w'.cell? ⟨g_vb, 1, none⟩ = some (.int .i64 b.2) ∧ w'.cell? (ad.add i) = some (.string s)) [14] ⟨HS.out.c 0 0 (v := .int .i64 b.1) rfl rfl, HS.out.c 0 1 (v := .int .i64 b.2) rfl rfl, HS.out.str 2 rfl HEs.out⟩ (fun hHeld => ?_)
              repeat (first | ((with_reducible refine gate_p ?_); refine rp rfl rfl ?_) | ((with_reducible refine gate_t ?_); refine rt rfl rfl hHeld ?_))
              refine run_two ?_ ?_
              · skip
                refine run_e rfl (fun K hK => ?_)
                refine gc Try.func83 (HNM.out _) rfl rfl ?_
                rintro e_ w1 ⟨rfl, hb⟩
                refine ⟨_, rfl, ?_⟩
                replace HS := sB HS hb
                refine ge hK ⟨HS.out.c 0 0 (v := .int .i64 b.1) rfl rfl, HS.out.c 0 1 (v := .int .i64 b.2) rfl rfl, HS.out.str 2 rfl HEs.out⟩ (fun hHeld => ?_)
                repeat (first | ((with_reducible refine gate_p ?_); refine rp rfl rfl ?_) | ((with_reducible refine gate_t ?_); refine rt rfl rfl hHeld ?_))
                refine run_two ?_ ?_
                · skip
                  refine run_e rfl (fun K hK => ?_)
                  refine gc Try.func161 (HP.out _) rfl rfl ?_
                  rintro e_ w1 ⟨rfl, hb⟩
                  refine ⟨_, rfl, ?_⟩
                  replace HS := sB HS hb
                  refine ge hK ⟨HS.out.c 0 0 (v := .int .i64 b.1) rfl rfl, HS.out.c 0 1 (v := .int .i64 b.2) rfl rfl, HS.out.str 2 rfl HEs.out⟩ (fun hHeld => ?_)
                  repeat (first | ((with_reducible refine gate_p ?_); refine rp rfl rfl ?_) | ((with_reducible refine gate_t ?_); refine rt rfl rfl hHeld ?_))
                  refine run_e rfl (fun K hK => ?_)
                  refine bx1 35 #[(.int .i64 0), (.int .i64 0)] HS ?_
                  intro g_pr w1 hg_pr HS
                  refine ge hK ⟨HS.out.c 1 0 (v := .int .i64 b.1) rfl rfl, HS.out.c 1 1 (v := .int .i64 b.2) rfl rfl, HS.out.str 3 rfl HEs.out⟩ (fun hHeld => ?_)
                  refine run_d rfl (fun K hK => ?_)
                  refine st1 HS 0 0 #[.int .i64 q.1, .int .i64 q.2] rfl rfl rfl rfl rfl ?_
                  intro w1 HS
                  refine goD hK rfl ?_
                  repeat (first | ((with_reducible refine gate_p ?_); refine rp rfl rfl ?_) | ((with_reducible refine gate_t ?_); refine rt rfl rfl hHeld ?_))
                  refine run_done ?_
                  exact ⟨g_pr, rfl, HS⟩
                · skip
                  refine run_e rfl (fun K hK => ?_)
                  refine bx1 35 #[(.int .i64 0), (.int .i64 0)] HS ?_
                  intro g_pr w1 hg_pr HS
                  refine ge hK ⟨HS.out.c 1 0 (v := .int .i64 b.1) rfl rfl, HS.out.c 1 1 (v := .int .i64 b.2) rfl rfl, HS.out.str 3 rfl HEs.out⟩ (fun hHeld => ?_)
                  refine run_e rfl (fun K hK => ?_)
                  refine gc Try.func161 (HP.out _) rfl rfl ?_
                  rintro e_ w1 ⟨rfl, hb⟩
                  refine ⟨_, rfl, ?_⟩
                  replace HS := sB HS hb
                  refine ge hK ⟨HS.out.c 1 0 (v := .int .i64 b.1) rfl rfl, HS.out.c 1 1 (v := .int .i64 b.2) rfl rfl, HS.out.str 3 rfl HEs.out⟩ (fun hHeld => ?_)
                  repeat (first | ((with_reducible refine gate_p ?_); refine rp rfl rfl ?_) | ((with_reducible refine gate_t ?_); refine rt rfl rfl hHeld ?_))
                  refine run_d rfl (fun K hK => ?_)
                  refine st1 HS 0 0 #[.int .i64 q.1, .int .i64 q.2] rfl rfl rfl rfl rfl ?_
                  intro w1 HS
                  refine goD hK rfl ?_
                  repeat (first | ((with_reducible refine gate_p ?_); refine rp rfl rfl ?_) | ((with_reducible refine gate_t ?_); refine rt rfl rfl hHeld ?_))
                  refine run_done ?_
                  have n_ := HS.out.sel [0, 1, 2, 3, 4, 5] (by decide)
                  simp only [List.filterMap_cons, List.filterMap_nil, List.getElem?_cons_zero, List.getElem?_cons_succ] at n_
                  exact ⟨g_pr, rfl, ⟨n_⟩⟩
              · skip
                refine run_e rfl (fun K hK => ?_)
                refine bx1 35 #[(.int .i64 0), (.int .i64 0)] HS ?_
                intro g_pr w1 hg_pr HS
                refine ge hK ⟨HS.out.c 1 0 (v := .int .i64 b.1) rfl rfl, HS.out.c 1 1 (v := .int .i64 b.2) rfl rfl, HS.out.str 3 rfl HEs.out⟩ (fun hHeld => ?_)
                refine run_e rfl (fun K hK => ?_)
                refine gc Try.func83 (HNM.out _) rfl rfl ?_
                rintro e_ w1 ⟨rfl, hb⟩
                refine ⟨_, rfl, ?_⟩
                replace HS := sB HS hb
                refine ge hK ⟨HS.out.c 1 0 (v := .int .i64 b.1) rfl rfl, HS.out.c 1 1 (v := .int .i64 b.2) rfl rfl, HS.out.str 3 rfl HEs.out⟩ (fun hHeld => ?_)
                repeat (first | ((with_reducible refine gate_p ?_); refine rp rfl rfl ?_) | ((with_reducible refine gate_t ?_); refine rt rfl rfl hHeld ?_))
                refine run_e rfl (fun K hK => ?_)
                refine gc Try.func161 (HP.out _) rfl rfl ?_
                rintro e_ w1 ⟨rfl, hb⟩
                refine ⟨_, rfl, ?_⟩
                replace HS := sB HS hb
                refine ge hK ⟨HS.out.c 1 0 (v := .int .i64 b.1) rfl rfl, HS.out.c 1 1 (v := .int .i64 b.2) rfl rfl, HS.out.str 3 rfl HEs.out⟩ (fun hHeld => ?_)
                repeat (first | ((with_reducible refine gate_p ?_); refine rp rfl rfl ?_) | ((with_reducible refine gate_t ?_); refine rt rfl rfl hHeld ?_))
                refine run_d rfl (fun K hK => ?_)
                refine st1 HS 0 0 #[.int .i64 q.1, .int .i64 q.2] rfl rfl rfl rfl rfl ?_
                intro w1 HS
                refine goD hK rfl ?_
                repeat (first | ((with_reducible refine gate_p ?_); refine rp rfl rfl ?_) | ((with_reducible refine gate_t ?_); refine rt rfl rfl hHeld ?_))
                refine run_done ?_
                have n_ := HS.out.sel [0, 1, 2, 3, 4, 5] (by decide)
                simp only [List.filterMap_cons, List.filterMap_nil, List.getElem?_cons_zero, List.getElem?_cons_succ] at n_
                exact ⟨g_pr, rfl, ⟨n_⟩⟩
            clear HS
            rintro a_ w1 ⟨g_pr, rfl, HS⟩
            have f1_ := HS.out.c 2 0 (v := .int .i64 e.1) rfl rfl
            have f2_ := HS.out.c 2 1 (v := .int .i64 e.2) rfl rfl
            have f3_ := HS.out.c 0 0 (v := .int .i64 q.1) rfl rfl
            have f4_ := HS.out.c 0 1 (v := .int .i64 q.2) rfl rfl
            go_wp2_with (first | (go_at_call 162; refine (HQ.out _).mono ?_; rintro e_ w1 ⟨rfl, hb⟩; replace HS := sB HS hb; clear hb f1_ f2_ f3_ f4_) | ((with_reducible refine gate_dst (N := 14) rfl ?_); refine bxL 35 #[(.int .i64 0), (.int .i64 0)] HS ?_; clear HS; intro g_nx w1 hg_nx HS) | ((with_reducible refine gate_store (t := 35) (p := 14) rfl ?_); refine stL HS 0 0 #[.int .i64 f.1, .int .i64 f.2] rfl rfl rfl rfl rfl ?_; clear HS; intro w1 HS; have f1_ := HS.out.c 0 0 (v := .int .i64 f.1) rfl rfl; have f2_ := HS.out.c 0 1 (v := .int .i64 f.2) rfl rfl) | ((with_reducible refine gate_store (t := 35) (p := 8) rfl ?_); refine stL HS 3 0 #[.int .i64 f.1, .int .i64 f.2] rfl rfl rfl rfl rfl ?_; clear HS f1_ f2_; intro w1 HS))
            replace HS : Aside0 (Mod _ _ _ [_, _, _, _]) := sX HS [3, 4, 5, 6]
            go_roundw
            case rel => exact ⟨i + 1, f, by omega, by go_num, HN2, HS⟩
            case measure => simp [intOf]; omega
    · obtain rfl : i = us.length := by omega
      have f1_ := HS.out.c 0 0 (v := .int .i64 e.1) rfl rfl
      have f2_ := HS.out.c 0 1 (v := .int .i64 e.2) rfl rfl
      go_wp2_with (first | ((with_reducible refine gate_store (t := 35) (p := 6) rfl ?_); refine stL HS 2 0 #[.int .i64 e.1, .int .i64 e.2] rfl rfl rfl rfl rfl ?_; clear HS f1_ f2_; intro w1 HS))
      refine bodyPost_ret (results_cell_tmp_row rfl _ _ g_r 35 #[.int .i64 e.1, .int .i64 e.2] (0, 0) _ rfl (HS.out.at (i := 2) rfl) Try.underlying35 rfl (by kernel_rfl)) rfl ?_
      rw [HPS.out, HE.out]
      exact ⟨rfl, HS.out.below⟩
end Go.Proofs.Ytaheikponfmdiaa.H


