/- Plain facts and contracts of functions that the law's walk uses. Conditions: those that stand in each statement. -/
import Derived.Test.YtibjkjhpfmmjoaaShG2
import Derived.Test.YtibjkjhpfmmjoaaShG6
import Derived.Test.YtibjkjhpfmmjoaaShG8
import Derived.Test.YtibjkjhpfmmjoaaShG5
import Derived.Test.YtibjkjhpfmmjoaaShG7
set_option linter.unusedVariables false
set_option linter.unusedSimpArgs false
namespace Go.Proofs.Ytibjkjhpfmmjoaa.H
open Go.RowKit Go.Proofs.YtibjkjhpfmmjoaaW.PrintWords Go.Proofs.YtibjkjhpfmmjoaaW.PrintLast Go.Proofs.YtibjkjhpfmmjoaaW.PrintMore Go.Proofs.Ytibjkjhpfmmjoaa.M
attribute [local go_sem] max2_int min2_int max_two min_two max_three min_three max_four min_four
set_option linter.unusedVariables false
set_option linter.unusedSimpArgs false
set_option maxRecDepth 100000
set_option maxHeartbeats 16000000 in
theorem specShuffleF (d n : Nat) (hd : d ≤ 3) (hn : n ≤ 5) (A : Option Addr) (c : Nat) (l : Ts) (A2 : Option Addr) (cc : Nat) (l2 : Ts) (w : World) (hr : KT.C w A l.length l) (hc : l.length ≤ c) (hr2 : KT.C w A2 l2.length l2) (hcc : l2.length ≤ cc) (hx : isTs d n l = true) (hy : isTs d n l2 = true) :
    Calls Try.prog 95 #[.agg #[.int .i64 (d : Int), .int .i64 (n : Int), .slice A l.length c], .agg #[.int .i64 (d : Int), .int .i64 (n : Int), .slice A2 l2.length cc], .bool false] w (RetQ w (resQ d n (shS d n false l l2))) := by
  have hd9 : d ≤ 9 := by omega
  have HR := Aside0.mk hr
  have HR2 := Aside0.mk hr2
  have hll := (bnd_iff.1 (isTs_bnd hd hn hx)).1
  have hll2 := (bnd_iff.1 (isTs_bnd hd hn hy)).1
  have HSM := Aside0.mk (fun k (h : k < l.length) => (by rw [getD_lt l zT k h]; exact (isTs_iff.1 hx).1 _ (List.getElem_mem h) : isTm d n (l.getD k zT) = true))
  have HSM2 := Aside0.mk (fun k (h : k < l2.length) => (by rw [getD_lt l2 zT k h]; exact (isTs_iff.1 hy).1 _ (List.getElem_mem h) : isTm d n (l2.getD k zT) = true))
  have HS := Aside0.mk (Sep.refl w)
  clear hr hr2 hx hy
  go_enter Try.func95, Try.ntmps95
  go_wp2_with (first | ((with_reducible refine gate_dst (N := 3) rfl ?_); refine bxL 26 #[.int .i64 (d : Int), .int .i64 (n : Int), .slice A l.length c] HS ?_; clear HS; intro g_p w1 hg_p HS) | ((with_reducible refine gate_dst (N := 4) rfl ?_); refine bxL 26 #[.int .i64 (d : Int), .int .i64 (n : Int), .slice A2 l2.length cc] HS ?_; clear HS; intro g_a w1 hg_a HS) | ((with_reducible refine gate_dst (N := 6) rfl ?_); refine bxL 26 #[(.int .i64 0), (.int .i64 0), (.slice none 0 0)] HS ?_; clear HS; intro g_r w1 hg_r HS; have f1_ := HS.out.c 2 0 (v := .int .i64 (d : Int)) rfl rfl; have f2_ := HS.out.c 2 1 (v := .int .i64 (n : Int)) rfl rfl; have f3_ := HS.out.c 2 2 (v := .slice A l.length c) rfl rfl) | (go_at_call 62; refine (specEmpty d n A l.length c _).mono ?_; rintro e_ w1 ⟨B, b, rfl, hs⟩; replace HS := sN1 HS hs; clear hs f1_ f2_ f3_) | ((with_reducible refine gate_dst (N := 8) rfl ?_); refine bxL 26 #[(.int .i64 0), (.int .i64 0), (.slice none 0 0)] HS ?_; clear HS; intro g_q w1 hg_q HS) | ((with_reducible refine gate_store (t := 26) (p := 8) rfl ?_); refine stL HS 0 0 #[.int .i64 (d : Int), .int .i64 (n : Int), .slice B ([] : Ts).length b] rfl rfl rfl rfl rfl ?_; clear HS; intro w1 HS))
  go_loopw [9] (fun v w' => ∃ (i : Nat) (B : Option Addr) (b : Nat) (z : Ts), i ≤ l.length ∧ v = .int .i64 (i : Int) ∧ Aside0 (isTs d n z = true) ∧ Aside0 ((l.take i).foldlM (stepA d n false l2) [] = some z) ∧ Aside0 (Mod w w' No [bx g_q 26 #[.int .i64 (d : Int), .int .i64 (n : Int), .slice B z.length b], rowT B b z, bx g_r 26 #[(.int .i64 0), (.int .i64 0), (.slice none 0 0)], bx g_a 26 #[.int .i64 (d : Int), .int .i64 (n : Int), .slice A2 l2.length cc], bx g_p 26 #[.int .i64 (d : Int), .int .i64 (n : Int), .slice A l.length c]])) (fun v _ => l.length - (intOf v).toNat)
  case atStart => exact ⟨0, B, b, [], by omega, rfl, ⟨rfl⟩, ⟨rfl⟩, HS⟩
  case round =>
    clear HS
    obtain ⟨i, B, b, z, hi, rfl, HT, HZ, HS⟩ := hrel
    by_cases hlt : i < l.length
    · have htm := HSM.out i hlt
      have hgt := Aside0.mk (getD_lt l zT i hlt)
      obtain ⟨ad_A, ea_, h0_, h1_, h2_⟩ := tm_at HR.out i (hlt)
      cases ea_
      obtain ⟨t, ht_⟩ : ∃ t_, t_ = l.getD i zT := ⟨_, rfl⟩
      rw [← ht_] at h0_ h1_ h2_
      have Et := Aside0.mk ht_; have H0t := Aside0.mk h0_; have H1t := Aside0.mk h1_; have H2t := Aside0.mk h2_
      clear ht_ h0_ h1_ h2_
      rw [← Et.out] at htm hgt
      have HE1 := Aside0.mk (show l[i]? = some t by rw [hgt.out]; exact List.getElem?_eq_getElem hlt)
      have HTM := Aside0.mk (isTm_fr htm)
      have hts : t.1.size ≤ 5 := by have := HTM.out.2.2.2; omega
      have hsmt := fr_small HTM.out.1
      clear htm hgt
      have f1_ := HS.out.c 4 2 (v := .slice (some ad_A) l.length c) rfl rfl
      go_wp2
      go_loopw [10] (fun v w' => ∃ (j : Nat) (B : Option Addr) (b : Nat) (y : Ts), j ≤ l2.length ∧ v = .int .i64 (j : Int) ∧ Aside0 (isTs d n y = true) ∧ Aside0 ((l2.take j).foldlM (stepC d n false t) z = some y) ∧ Aside0 (Mod w w' No [bx g_q 26 #[.int .i64 (d : Int), .int .i64 (n : Int), .slice B y.length b], rowT B b y, bx g_r 26 #[(.int .i64 0), (.int .i64 0), (.slice none 0 0)], bx g_a 26 #[.int .i64 (d : Int), .int .i64 (n : Int), .slice A2 l2.length cc], bx g_p 26 #[.int .i64 (d : Int), .int .i64 (n : Int), .slice (some ad_A) l.length c]])) (fun v _ => l2.length - (intOf v).toNat)
      case atStart => exact ⟨0, B, b, z, by omega, rfl, HT, ⟨rfl⟩, HS⟩
      case round =>
        clear HS HT
        obtain ⟨j, B, b, y, hj, rfl, HT, HY, HS⟩ := hrel
        by_cases hlt2 : j < l2.length
        · have htm := HSM2.out j hlt2
          have hgt := Aside0.mk (getD_lt l2 zT j hlt2)
          obtain ⟨ad_A2, ea_, h0_, h1_, h2_⟩ := tm_at HR2.out j (hlt2)
          cases ea_
          obtain ⟨t2, ht_⟩ : ∃ t_, t_ = l2.getD j zT := ⟨_, rfl⟩
          rw [← ht_] at h0_ h1_ h2_
          have Et2 := Aside0.mk ht_; have H0t2 := Aside0.mk h0_; have H1t2 := Aside0.mk h1_; have H2t2 := Aside0.mk h2_
          clear ht_ h0_ h1_ h2_
          rw [← Et2.out] at htm hgt
          have HE2 := Aside0.mk (show l2[j]? = some t2 by rw [hgt.out]; exact List.getElem?_eq_getElem hlt2)
          have HTM2 := Aside0.mk (isTm_fr htm)
          have hts2 : t2.1.size ≤ 5 := by have := HTM2.out.2.2.2; omega
          have hsmt2 := fr_small HTM2.out.1
          clear htm hgt
          have HNX := Aside0.mk (fun {x : Ts} (h : stepC d n false t y t2 = some x) => ((foldM_at HY.out HE2.out).trans h : (l2.take (j + 1)).foldlM (stepC d n false t) z = some x))
          have HH := Aside0.mk (show ¬ (false = true ∧ t.1.size = 0) by rintro ⟨h1_, h2_⟩; first | omega | cases h1_)
          have HBD := Aside0.mk (fun h => stepC_bad (d := d) (n := n) (z := y) (b := t2) HH.out h)
          have HLG := Aside0.mk (fun p (h : mul t.2 t2.2 = some p) h2 => stepC_long (d := d) (n := n) (z := y) HH.out h h2)
          have HOQ := Aside0.mk (fun p (h : mul t.2 t2.2 = some p) h2 => stepC_open (d := d) (n := n) (z := y) HH.out h h2)
          clear HH
          obtain ⟨o, ho⟩ : ∃ o, o = mul t.2 t2.2 := ⟨_, rfl⟩
          have HP := Aside0.mk (fun W => ho ▸ specTimes t.2.1 t.2.2 t2.2.1 t2.2.2 W hsmt hsmt2)
          have HO := Aside0.mk ho
          have HOF := Aside0.mk (fun v (hv : o = some v) => (mul_fr (ho.symm.trans hv) : fr v = true))
          clear ho
          cases o with
          | none =>
            have f1_ := HS.out.c 3 2 (v := .slice (some ad_A2) l2.length cc) rfl rfl
            go_wp2
            clear f1_
            replace HS := sD HS
            refine ps (.p 0 (.p 2 (.p 6 (.p 8 (.t 1 (.p 3 (.p 4 (.t 5 (.p 12 (.t 7 (.p 9 (.p 10 (.t 11 (.p 13 .done)))))))))))))) (fun w' => w'.cell? ⟨g_p, 2, none⟩ = some (.slice (some ad_A) l.length c) ∧ w'.cell? (ad_A.add (i * 3)) = some (.string t.1) ∧ w'.cell? ⟨g_a, 2, none⟩ = some (.slice (some ad_A2) l2.length cc) ∧ w'.cell? (ad_A2.add (j * 3)) = some (.string t2.1)) [] ⟨HS.out.c 4 2 (v := .slice (some ad_A) l.length c) rfl rfl, HS.out.old H0t.out, HS.out.c 3 2 (v := .slice (some ad_A2) l2.length cc) rfl rfl, HS.out.old H0t2.out⟩ (fun hHeld => ?_)
            repeat (first | ((with_reducible refine gate_p ?_); refine rp rfl rfl ?_) | ((with_reducible refine gate_t ?_); refine rt rfl rfl hHeld ?_))
            refine run_done ?_
            clear hHeld
            go_wp2
            replace HS := sD HS
            apply region_told ((fun (A0_ : Nat → Act) (a' : Act) (w' : World) => ∃ (g_pr : Nat), a' = A0_ g_pr ∧ Aside0 (Mod w w' No [bx g_pr 34 #[.int .i64 0, .int .i64 0], bx g_q 26 #[.int .i64 (d : Int), .int .i64 (n : Int), .slice B y.length b], rowT B b y, bx g_r 26 #[(.int .i64 0), (.int .i64 0), (.slice none 0 0)], bx g_a 26 #[.int .i64 (d : Int), .int .i64 (n : Int), .slice (some ad_A2) l2.length cc], bx g_p 26 #[.int .i64 (d : Int), .int .i64 (n : Int), .slice (some ad_A) l.length c]])) _)
            case h1 =>
              refine ps (.p 0 (.p 2 (.p 6 (.p 8 (.t 1 (.p 3 (.p 4 (.t 5 (.t 7 (.p 9 (.p 10 (.t 11 (.two 12 16 (.p 13 (.p 14 (.p 15 (.e 16 (.d 17 (.p 18 .done)))))) (.e 12 (.p 13 (.p 14 (.p 15 (.d 17 (.p 18 .done))))))))))))))))))) (fun w' => w'.cell? ⟨g_p, 2, none⟩ = some (.slice (some ad_A) l.length c) ∧ w'.cell? ⟨(ad_A.add (i * 3)).block, (ad_A.add (i * 3)).off + 1, none⟩ = some (.int .i64 t.2.1) ∧ w'.cell? ⟨(ad_A.add (i * 3)).block, (ad_A.add (i * 3)).off + 1 + 1, none⟩ = some (.int .i64 t.2.2) ∧ w'.cell? ⟨g_a, 2, none⟩ = some (.slice (some ad_A2) l2.length cc) ∧ w'.cell? ⟨(ad_A2.add (j * 3)).block, (ad_A2.add (j * 3)).off + 1, none⟩ = some (.int .i64 t2.2.1) ∧ w'.cell? ⟨(ad_A2.add (j * 3)).block, (ad_A2.add (j * 3)).off + 1 + 1, none⟩ = some (.int .i64 t2.2.2)) [17] ⟨HS.out.c 4 2 (v := .slice (some ad_A) l.length c) rfl rfl, HS.out.old H1t.out, c2 (HS.out.old H2t.out), HS.out.c 3 2 (v := .slice (some ad_A2) l2.length cc) rfl rfl, HS.out.old H1t2.out, c2 (HS.out.old H2t2.out)⟩ (fun hHeld => ?_)
              repeat (first | ((with_reducible refine gate_p ?_); refine rp rfl rfl ?_) | ((with_reducible refine gate_t ?_); refine rt rfl rfl hHeld ?_))
              refine run_two ?_ ?_
              · skip
                refine run_e rfl (fun K hK => ?_)
                refine gc Try.func121 (HP.out _) rfl rfl ?_
                rintro e_ w1 ⟨rfl, hb⟩
                refine ⟨_, rfl, ?_⟩
                replace HS := sB HS hb
                refine ge hK ⟨HS.out.c 4 2 (v := .slice (some ad_A) l.length c) rfl rfl, HS.out.old H1t.out, c2 (HS.out.old H2t.out), HS.out.c 3 2 (v := .slice (some ad_A2) l2.length cc) rfl rfl, HS.out.old H1t2.out, c2 (HS.out.old H2t2.out)⟩ (fun hHeld => ?_)
                repeat (first | ((with_reducible refine gate_p ?_); refine rp rfl rfl ?_) | ((with_reducible refine gate_t ?_); refine rt rfl rfl hHeld ?_))
                refine run_e rfl (fun K hK => ?_)
                refine bx1 34 #[(.int .i64 0), (.int .i64 0)] HS ?_
                intro g_pr w1 hg_pr HS
                refine ge hK ⟨HS.out.c 5 2 (v := .slice (some ad_A) l.length c) rfl rfl, HS.out.old H1t.out, c2 (HS.out.old H2t.out), HS.out.c 4 2 (v := .slice (some ad_A2) l2.length cc) rfl rfl, HS.out.old H1t2.out, c2 (HS.out.old H2t2.out)⟩ (fun hHeld => ?_)
                refine run_d rfl (fun K hK => ?_)
                refine st1 HS 0 0 #[.int .i64 0, .int .i64 0] rfl rfl rfl rfl rfl ?_
                intro w1 HS
                refine goD hK rfl ?_
                repeat (first | ((with_reducible refine gate_p ?_); refine rp rfl rfl ?_) | ((with_reducible refine gate_t ?_); refine rt rfl rfl hHeld ?_))
                refine run_done ?_
                exact ⟨g_pr, rfl, HS⟩
              · skip
                refine run_e rfl (fun K hK => ?_)
                refine bx1 34 #[(.int .i64 0), (.int .i64 0)] HS ?_
                intro g_pr w1 hg_pr HS
                refine ge hK ⟨HS.out.c 5 2 (v := .slice (some ad_A) l.length c) rfl rfl, HS.out.old H1t.out, c2 (HS.out.old H2t.out), HS.out.c 4 2 (v := .slice (some ad_A2) l2.length cc) rfl rfl, HS.out.old H1t2.out, c2 (HS.out.old H2t2.out)⟩ (fun hHeld => ?_)
                refine run_e rfl (fun K hK => ?_)
                refine gc Try.func121 (HP.out _) rfl rfl ?_
                rintro e_ w1 ⟨rfl, hb⟩
                refine ⟨_, rfl, ?_⟩
                replace HS := sB HS hb
                refine ge hK ⟨HS.out.c 5 2 (v := .slice (some ad_A) l.length c) rfl rfl, HS.out.old H1t.out, c2 (HS.out.old H2t.out), HS.out.c 4 2 (v := .slice (some ad_A2) l2.length cc) rfl rfl, HS.out.old H1t2.out, c2 (HS.out.old H2t2.out)⟩ (fun hHeld => ?_)
                repeat (first | ((with_reducible refine gate_p ?_); refine rp rfl rfl ?_) | ((with_reducible refine gate_t ?_); refine rt rfl rfl hHeld ?_))
                refine run_d rfl (fun K hK => ?_)
                refine st1 HS 0 0 #[.int .i64 0, .int .i64 0] rfl rfl rfl rfl rfl ?_
                intro w1 HS
                refine goD hK rfl ?_
                repeat (first | ((with_reducible refine gate_p ?_); refine rp rfl rfl ?_) | ((with_reducible refine gate_t ?_); refine rt rfl rfl hHeld ?_))
                refine run_done ?_
                have n_ := HS.out.sel [0, 1, 2, 3, 4, 5] (by decide)
                simp only [List.filterMap_cons, List.filterMap_nil, List.getElem?_cons_zero, List.getElem?_cons_succ] at n_
                exact ⟨g_pr, rfl, ⟨n_⟩⟩
            clear HS
            rintro a_ w1 ⟨g_pr, rfl, HS⟩
            go_wp2_with (first | ((with_reducible refine gate_store (t := 26) (p := 6) rfl ?_); refine stL HS 3 0 #[(.int .i64 0), (.int .i64 0), (.slice none 0 0)] rfl rfl rfl rfl rfl ?_; clear HS; intro w1 HS))
            refine bodyPost_ret (results_cell_tmp_row rfl _ _ g_r 26 #[(.int .i64 0), (.int .i64 0), (.slice none 0 0)] (0, 0) _ rfl (HS.out.at (i := 3) rfl) Try.underlying26 rfl (by kernel_rfl)) rfl ?_
            rw [sh_fail HZ.out HE1.out HY.out HE2.out (HBD.out HO.out.symm)]
            exact ⟨none, 0, rfl, nilS (HS.out.sel [] (by decide))⟩
          | some f =>
            have HFF := Aside0.mk (HOF.out f rfl)
            clear HOF
            by_cases hlong : n < t.1.size + t2.1.size
            · have HN := Aside0.mk (HNX.out (HLG.out f HO.out.symm hlong))
              have f1_ := HS.out.c 3 2 (v := .slice (some ad_A2) l2.length cc) rfl rfl
              go_wp2
              clear f1_
              replace HS := sD HS
              refine ps (.p 0 (.p 2 (.p 6 (.p 8 (.t 1 (.p 3 (.p 4 (.t 5 (.p 12 (.t 7 (.p 9 (.p 10 (.t 11 (.p 13 .done)))))))))))))) (fun w' => w'.cell? ⟨g_p, 2, none⟩ = some (.slice (some ad_A) l.length c) ∧ w'.cell? (ad_A.add (i * 3)) = some (.string t.1) ∧ w'.cell? ⟨g_a, 2, none⟩ = some (.slice (some ad_A2) l2.length cc) ∧ w'.cell? (ad_A2.add (j * 3)) = some (.string t2.1)) [] ⟨HS.out.c 4 2 (v := .slice (some ad_A) l.length c) rfl rfl, HS.out.old H0t.out, HS.out.c 3 2 (v := .slice (some ad_A2) l2.length cc) rfl rfl, HS.out.old H0t2.out⟩ (fun hHeld => ?_)
              repeat (first | ((with_reducible refine gate_p ?_); refine rp rfl rfl ?_) | ((with_reducible refine gate_t ?_); refine rt rfl rfl hHeld ?_))
              refine run_done ?_
              clear hHeld
              go_wp2
              replace HS := sD HS
              apply region_told ((fun (A0_ : Nat → Act) (a' : Act) (w' : World) => ∃ (g_pr : Nat), a' = A0_ g_pr ∧ Aside0 (Mod w w' No [bx g_pr 34 #[.int .i64 f.1, .int .i64 f.2], bx g_q 26 #[.int .i64 (d : Int), .int .i64 (n : Int), .slice B y.length b], rowT B b y, bx g_r 26 #[(.int .i64 0), (.int .i64 0), (.slice none 0 0)], bx g_a 26 #[.int .i64 (d : Int), .int .i64 (n : Int), .slice (some ad_A2) l2.length cc], bx g_p 26 #[.int .i64 (d : Int), .int .i64 (n : Int), .slice (some ad_A) l.length c]])) _)
              case h1 =>
                refine ps (.p 0 (.p 2 (.p 6 (.p 8 (.t 1 (.p 3 (.p 4 (.t 5 (.t 7 (.p 9 (.p 10 (.t 11 (.two 12 16 (.p 13 (.p 14 (.p 15 (.e 16 (.d 17 (.p 18 .done)))))) (.e 12 (.p 13 (.p 14 (.p 15 (.d 17 (.p 18 .done))))))))))))))))))) (fun w' => w'.cell? ⟨g_p, 2, none⟩ = some (.slice (some ad_A) l.length c) ∧ w'.cell? ⟨(ad_A.add (i * 3)).block, (ad_A.add (i * 3)).off + 1, none⟩ = some (.int .i64 t.2.1) ∧ w'.cell? ⟨(ad_A.add (i * 3)).block, (ad_A.add (i * 3)).off + 1 + 1, none⟩ = some (.int .i64 t.2.2) ∧ w'.cell? ⟨g_a, 2, none⟩ = some (.slice (some ad_A2) l2.length cc) ∧ w'.cell? ⟨(ad_A2.add (j * 3)).block, (ad_A2.add (j * 3)).off + 1, none⟩ = some (.int .i64 t2.2.1) ∧ w'.cell? ⟨(ad_A2.add (j * 3)).block, (ad_A2.add (j * 3)).off + 1 + 1, none⟩ = some (.int .i64 t2.2.2)) [17] ⟨HS.out.c 4 2 (v := .slice (some ad_A) l.length c) rfl rfl, HS.out.old H1t.out, c2 (HS.out.old H2t.out), HS.out.c 3 2 (v := .slice (some ad_A2) l2.length cc) rfl rfl, HS.out.old H1t2.out, c2 (HS.out.old H2t2.out)⟩ (fun hHeld => ?_)
                repeat (first | ((with_reducible refine gate_p ?_); refine rp rfl rfl ?_) | ((with_reducible refine gate_t ?_); refine rt rfl rfl hHeld ?_))
                refine run_two ?_ ?_
                · skip
                  refine run_e rfl (fun K hK => ?_)
                  refine gc Try.func121 (HP.out _) rfl rfl ?_
                  rintro e_ w1 ⟨rfl, hb⟩
                  refine ⟨_, rfl, ?_⟩
                  replace HS := sB HS hb
                  refine ge hK ⟨HS.out.c 4 2 (v := .slice (some ad_A) l.length c) rfl rfl, HS.out.old H1t.out, c2 (HS.out.old H2t.out), HS.out.c 3 2 (v := .slice (some ad_A2) l2.length cc) rfl rfl, HS.out.old H1t2.out, c2 (HS.out.old H2t2.out)⟩ (fun hHeld => ?_)
                  repeat (first | ((with_reducible refine gate_p ?_); refine rp rfl rfl ?_) | ((with_reducible refine gate_t ?_); refine rt rfl rfl hHeld ?_))
                  refine run_e rfl (fun K hK => ?_)
                  refine bx1 34 #[(.int .i64 0), (.int .i64 0)] HS ?_
                  intro g_pr w1 hg_pr HS
                  refine ge hK ⟨HS.out.c 5 2 (v := .slice (some ad_A) l.length c) rfl rfl, HS.out.old H1t.out, c2 (HS.out.old H2t.out), HS.out.c 4 2 (v := .slice (some ad_A2) l2.length cc) rfl rfl, HS.out.old H1t2.out, c2 (HS.out.old H2t2.out)⟩ (fun hHeld => ?_)
                  refine run_d rfl (fun K hK => ?_)
                  refine st1 HS 0 0 #[.int .i64 f.1, .int .i64 f.2] rfl rfl rfl rfl rfl ?_
                  intro w1 HS
                  refine goD hK rfl ?_
                  repeat (first | ((with_reducible refine gate_p ?_); refine rp rfl rfl ?_) | ((with_reducible refine gate_t ?_); refine rt rfl rfl hHeld ?_))
                  refine run_done ?_
                  exact ⟨g_pr, rfl, HS⟩
                · skip
                  refine run_e rfl (fun K hK => ?_)
                  refine bx1 34 #[(.int .i64 0), (.int .i64 0)] HS ?_
                  intro g_pr w1 hg_pr HS
                  refine ge hK ⟨HS.out.c 5 2 (v := .slice (some ad_A) l.length c) rfl rfl, HS.out.old H1t.out, c2 (HS.out.old H2t.out), HS.out.c 4 2 (v := .slice (some ad_A2) l2.length cc) rfl rfl, HS.out.old H1t2.out, c2 (HS.out.old H2t2.out)⟩ (fun hHeld => ?_)
                  refine run_e rfl (fun K hK => ?_)
                  refine gc Try.func121 (HP.out _) rfl rfl ?_
                  rintro e_ w1 ⟨rfl, hb⟩
                  refine ⟨_, rfl, ?_⟩
                  replace HS := sB HS hb
                  refine ge hK ⟨HS.out.c 5 2 (v := .slice (some ad_A) l.length c) rfl rfl, HS.out.old H1t.out, c2 (HS.out.old H2t.out), HS.out.c 4 2 (v := .slice (some ad_A2) l2.length cc) rfl rfl, HS.out.old H1t2.out, c2 (HS.out.old H2t2.out)⟩ (fun hHeld => ?_)
                  repeat (first | ((with_reducible refine gate_p ?_); refine rp rfl rfl ?_) | ((with_reducible refine gate_t ?_); refine rt rfl rfl hHeld ?_))
                  refine run_d rfl (fun K hK => ?_)
                  refine st1 HS 0 0 #[.int .i64 f.1, .int .i64 f.2] rfl rfl rfl rfl rfl ?_
                  intro w1 HS
                  refine goD hK rfl ?_
                  repeat (first | ((with_reducible refine gate_p ?_); refine rp rfl rfl ?_) | ((with_reducible refine gate_t ?_); refine rt rfl rfl hHeld ?_))
                  refine run_done ?_
                  have n_ := HS.out.sel [0, 1, 2, 3, 4, 5] (by decide)
                  simp only [List.filterMap_cons, List.filterMap_nil, List.getElem?_cons_zero, List.getElem?_cons_succ] at n_
                  exact ⟨g_pr, rfl, ⟨n_⟩⟩
              clear HS
              rintro a_ w1 ⟨g_pr, rfl, HS⟩
              have f1_ := HS.out.c 5 1 (v := .int .i64 (n : Int)) rfl rfl
              go_wp2
              replace HS : Aside0 (Mod _ _ _ [_, _, _, _, _]) := sX HS [1, 2, 3, 4, 5]
              go_roundw
              case rel => exact ⟨j + 1, B, b, y, by omega, by go_num, HT, HN, HS⟩
              case measure => simp [intOf]; omega
            · have HOP := Aside0.mk (HOQ.out f HO.out.symm hlong)
              have HWD := Aside0.mk (fun X => specShW d t.1 t2.1 X hd (by omega))
              have HSZ := Aside0.mk (fun (k : Nat) (s : ByteArray) (h : (shW d t.1 t2.1)[k]? = some s) => shW_mem hd9 (List.mem_of_getElem? h))
              have hul : (shW d t.1 t2.1).length ≤ 6561 := by
                refine Nat.le_trans (List.length_filter_le _ _) ?_
                exact wordsN_le hd (by omega)
              obtain ⟨u, hu⟩ : ∃ u, u = shW d t.1 t2.1 := ⟨_, rfl⟩
              rw [← hu] at HWD HSZ hul HOP
              clear hu
              have f1_ := HS.out.c 3 2 (v := .slice (some ad_A2) l2.length cc) rfl rfl
              go_wp2
              clear f1_
              replace HS := sD HS
              refine ps (.p 0 (.p 2 (.p 6 (.p 8 (.t 1 (.p 3 (.p 4 (.t 5 (.p 12 (.t 7 (.p 9 (.p 10 (.t 11 (.p 13 .done)))))))))))))) (fun w' => w'.cell? ⟨g_p, 2, none⟩ = some (.slice (some ad_A) l.length c) ∧ w'.cell? (ad_A.add (i * 3)) = some (.string t.1) ∧ w'.cell? ⟨g_a, 2, none⟩ = some (.slice (some ad_A2) l2.length cc) ∧ w'.cell? (ad_A2.add (j * 3)) = some (.string t2.1)) [] ⟨HS.out.c 4 2 (v := .slice (some ad_A) l.length c) rfl rfl, HS.out.old H0t.out, HS.out.c 3 2 (v := .slice (some ad_A2) l2.length cc) rfl rfl, HS.out.old H0t2.out⟩ (fun hHeld => ?_)
              repeat (first | ((with_reducible refine gate_p ?_); refine rp rfl rfl ?_) | ((with_reducible refine gate_t ?_); refine rt rfl rfl hHeld ?_))
              refine run_done ?_
              clear hHeld
              go_wp2
              replace HS := sD HS
              apply region_told ((fun (A0_ : Nat → Act) (a' : Act) (w' : World) => ∃ (g_pr : Nat), a' = A0_ g_pr ∧ Aside0 (Mod w w' No [bx g_pr 34 #[.int .i64 f.1, .int .i64 f.2], bx g_q 26 #[.int .i64 (d : Int), .int .i64 (n : Int), .slice B y.length b], rowT B b y, bx g_r 26 #[(.int .i64 0), (.int .i64 0), (.slice none 0 0)], bx g_a 26 #[.int .i64 (d : Int), .int .i64 (n : Int), .slice (some ad_A2) l2.length cc], bx g_p 26 #[.int .i64 (d : Int), .int .i64 (n : Int), .slice (some ad_A) l.length c]])) _)
              case h1 =>
                refine ps (.p 0 (.p 2 (.p 6 (.p 8 (.t 1 (.p 3 (.p 4 (.t 5 (.t 7 (.p 9 (.p 10 (.t 11 (.two 12 16 (.p 13 (.p 14 (.p 15 (.e 16 (.d 17 (.p 18 .done)))))) (.e 12 (.p 13 (.p 14 (.p 15 (.d 17 (.p 18 .done))))))))))))))))))) (fun w' => w'.cell? ⟨g_p, 2, none⟩ = some (.slice (some ad_A) l.length c) ∧ w'.cell? ⟨(ad_A.add (i * 3)).block, (ad_A.add (i * 3)).off + 1, none⟩ = some (.int .i64 t.2.1) ∧ w'.cell? ⟨(ad_A.add (i * 3)).block, (ad_A.add (i * 3)).off + 1 + 1, none⟩ = some (.int .i64 t.2.2) ∧ w'.cell? ⟨g_a, 2, none⟩ = some (.slice (some ad_A2) l2.length cc) ∧ w'.cell? ⟨(ad_A2.add (j * 3)).block, (ad_A2.add (j * 3)).off + 1, none⟩ = some (.int .i64 t2.2.1) ∧ w'.cell? ⟨(ad_A2.add (j * 3)).block, (ad_A2.add (j * 3)).off + 1 + 1, none⟩ = some (.int .i64 t2.2.2)) [17] ⟨HS.out.c 4 2 (v := .slice (some ad_A) l.length c) rfl rfl, HS.out.old H1t.out, c2 (HS.out.old H2t.out), HS.out.c 3 2 (v := .slice (some ad_A2) l2.length cc) rfl rfl, HS.out.old H1t2.out, c2 (HS.out.old H2t2.out)⟩ (fun hHeld => ?_)
                repeat (first | ((with_reducible refine gate_p ?_); refine rp rfl rfl ?_) | ((with_reducible refine gate_t ?_); refine rt rfl rfl hHeld ?_))
                refine run_two ?_ ?_
                · skip
                  refine run_e rfl (fun K hK => ?_)
                  refine gc Try.func121 (HP.out _) rfl rfl ?_
                  rintro e_ w1 ⟨rfl, hb⟩
                  refine ⟨_, rfl, ?_⟩
                  replace HS := sB HS hb
                  refine ge hK ⟨HS.out.c 4 2 (v := .slice (some ad_A) l.length c) rfl rfl, HS.out.old H1t.out, c2 (HS.out.old H2t.out), HS.out.c 3 2 (v := .slice (some ad_A2) l2.length cc) rfl rfl, HS.out.old H1t2.out, c2 (HS.out.old H2t2.out)⟩ (fun hHeld => ?_)
                  repeat (first | ((with_reducible refine gate_p ?_); refine rp rfl rfl ?_) | ((with_reducible refine gate_t ?_); refine rt rfl rfl hHeld ?_))
                  refine run_e rfl (fun K hK => ?_)
                  refine bx1 34 #[(.int .i64 0), (.int .i64 0)] HS ?_
                  intro g_pr w1 hg_pr HS
                  refine ge hK ⟨HS.out.c 5 2 (v := .slice (some ad_A) l.length c) rfl rfl, HS.out.old H1t.out, c2 (HS.out.old H2t.out), HS.out.c 4 2 (v := .slice (some ad_A2) l2.length cc) rfl rfl, HS.out.old H1t2.out, c2 (HS.out.old H2t2.out)⟩ (fun hHeld => ?_)
                  refine run_d rfl (fun K hK => ?_)
                  refine st1 HS 0 0 #[.int .i64 f.1, .int .i64 f.2] rfl rfl rfl rfl rfl ?_
                  intro w1 HS
                  refine goD hK rfl ?_
                  repeat (first | ((with_reducible refine gate_p ?_); refine rp rfl rfl ?_) | ((with_reducible refine gate_t ?_); refine rt rfl rfl hHeld ?_))
                  refine run_done ?_
                  exact ⟨g_pr, rfl, HS⟩
                · skip
                  refine run_e rfl (fun K hK => ?_)
                  refine bx1 34 #[(.int .i64 0), (.int .i64 0)] HS ?_
                  intro g_pr w1 hg_pr HS
                  refine ge hK ⟨HS.out.c 5 2 (v := .slice (some ad_A) l.length c) rfl rfl, HS.out.old H1t.out, c2 (HS.out.old H2t.out), HS.out.c 4 2 (v := .slice (some ad_A2) l2.length cc) rfl rfl, HS.out.old H1t2.out, c2 (HS.out.old H2t2.out)⟩ (fun hHeld => ?_)
                  refine run_e rfl (fun K hK => ?_)
                  refine gc Try.func121 (HP.out _) rfl rfl ?_
                  rintro e_ w1 ⟨rfl, hb⟩
                  refine ⟨_, rfl, ?_⟩
                  replace HS := sB HS hb
                  refine ge hK ⟨HS.out.c 5 2 (v := .slice (some ad_A) l.length c) rfl rfl, HS.out.old H1t.out, c2 (HS.out.old H2t.out), HS.out.c 4 2 (v := .slice (some ad_A2) l2.length cc) rfl rfl, HS.out.old H1t2.out, c2 (HS.out.old H2t2.out)⟩ (fun hHeld => ?_)
                  repeat (first | ((with_reducible refine gate_p ?_); refine rp rfl rfl ?_) | ((with_reducible refine gate_t ?_); refine rt rfl rfl hHeld ?_))
                  refine run_d rfl (fun K hK => ?_)
                  refine st1 HS 0 0 #[.int .i64 f.1, .int .i64 f.2] rfl rfl rfl rfl rfl ?_
                  intro w1 HS
                  refine goD hK rfl ?_
                  repeat (first | ((with_reducible refine gate_p ?_); refine rp rfl rfl ?_) | ((with_reducible refine gate_t ?_); refine rt rfl rfl hHeld ?_))
                  refine run_done ?_
                  have n_ := HS.out.sel [0, 1, 2, 3, 4, 5] (by decide)
                  simp only [List.filterMap_cons, List.filterMap_nil, List.getElem?_cons_zero, List.getElem?_cons_succ] at n_
                  exact ⟨g_pr, rfl, ⟨n_⟩⟩
              clear HS
              rintro a_ w1 ⟨g_pr, rfl, HS⟩
              have f1_ := HS.out.c 5 1 (v := .int .i64 (n : Int)) rfl rfl
              have f2_ := HS.out.c 5 0 (v := .int .i64 (d : Int)) rfl rfl
              go_wp2_with (first | (go_at_call 91; refine (HWD.out _).mono ?_; rintro e_ w1 ⟨B1, b1, rfl, hs⟩; replace HS := sN1 HS hs; clear hs f1_ f2_))
              go_loopw [16] (fun v w' => ∃ (k : Nat) (B : Option Addr) (b : Nat) (x : Ts), k ≤ u.length ∧ v = .int .i64 (k : Int) ∧ Aside0 (isTs d n x = true) ∧ Aside0 ((u.take k).foldlM (stepW false t.1 t2.1 f) y = some x) ∧ Aside0 (Mod w w' No [rowS B1 b1 u, bx g_pr 34 #[.int .i64 f.1, .int .i64 f.2], bx g_q 26 #[.int .i64 (d : Int), .int .i64 (n : Int), .slice B x.length b], rowT B b x, bx g_r 26 #[(.int .i64 0), (.int .i64 0), (.slice none 0 0)], bx g_a 26 #[.int .i64 (d : Int), .int .i64 (n : Int), .slice (some ad_A2) l2.length cc], bx g_p 26 #[.int .i64 (d : Int), .int .i64 (n : Int), .slice (some ad_A) l.length c]])) (fun v _ => u.length - (intOf v).toNat)
              case atStart => exact ⟨0, B, b, y, by omega, rfl, HT, ⟨rfl⟩, HS⟩
              case round =>
                clear HS HT
                obtain ⟨k, B, b, x, hk, rfl, HT, HX, HS⟩ := hrel
                by_cases hlt3 : k < u.length
                · obtain ⟨ad, ea, h_⟩ := str_at (HS.out.reads 0 rfl) k hlt3
                  clear h_
                  cases ea
                  obtain ⟨s, hs⟩ : ∃ s, u[k]? = some s := ⟨_, List.getElem?_eq_getElem hlt3⟩
                  have HE := Aside0.mk hs
                  have HSW := Aside0.mk (HSZ.out k s hs)
                  have hss : s.size ≤ 5 := by have := HSW.out.1; omega
                  have HNX2 := Aside0.mk (foldM_at (g := stepW false t.1 t2.1 f) HX.out hs)
                  have HNM := Aside0.mk (fun X => specNum t.1 t2.1 s X (by omega) (by omega) (by omega))
                  have hm3 := shN_le (v := t.1) (w := t2.1) (u := s) (by omega)
                  have hm4 := numS_le false t.1 t2.1 s
                  obtain ⟨m, hm⟩ : ∃ m, m = numS false t.1 t2.1 s := ⟨_, rfl⟩
                  rw [show shN t.1 t2.1 s = m from hm.symm] at HNM
                  have hmb : m ≤ 65536 := by rw [hm]; exact Nat.le_trans hm4 hm3
                  have HM := Aside0.mk hm
                  clear hs hm hm3 hm4
                  by_cases h0 : m = 0
                  · have HN := Aside0.mk (HNX2.out.trans (stepW_zero (HM.out.symm.trans h0)))
                    have hb1 : ((m : Int) == 0) = true := by rw [h0]; rfl
                    clear h0
                    have f1_ := HS.out.str 0 rfl HE.out
                    go_wp2_with (first | (go_at_call 92; refine (HNM.out _).mono ?_; rintro e_ w1 ⟨rfl, hb⟩; replace HS := sB HS hb; clear hb f1_))
                    go_roundw
                    case rel => exact ⟨k + 1, B, b, x, by omega, by go_num, HT, HN, HS⟩
                    case measure => simp [intOf]; omega
                  · have HN := Aside0.mk (HNX2.out.trans (stepW_pos (fun h => h0 (HM.out.trans h))))
                    rw [← HM.out] at HN
                    have hb1 : ((m : Int) == 0) = false := by rw [beq_eq_false_iff_ne]; omega
                    obtain ⟨o2, ho2⟩ : ∃ o, o = mul f ((m : Nat), 1) := ⟨_, rfl⟩
                    have HQ := Aside0.mk (fun W => ho2 ▸ specTimes f.1 f.2 (m : Int) 1 W (fr_small HFF.out) (by unfold small; omega))
                    have HQF := Aside0.mk (fun v (hv : o2 = some v) => (mul_fr (ho2.symm.trans hv) : fr v = true))
                    rw [← ho2] at HN
                    clear ho2 h0
                    cases o2 with
                    | none =>
                      clear HQF
                      have f1_ := HS.out.str 0 rfl HE.out
                      go_wp2_with (first | (go_at_call 92; refine (HNM.out _).mono ?_; rintro e_ w1 ⟨rfl, hb⟩; replace HS := sB HS hb; clear hb f1_; have f1_ := HS.out.c 1 0 (v := .int .i64 f.1) rfl rfl; have f2_ := HS.out.c 1 1 (v := .int .i64 f.2) rfl rfl) | (go_at_call 121; refine (HQ.out _).mono ?_; rintro e_ w1 ⟨rfl, hb⟩; replace HS := sB HS hb; clear hb f1_ f2_) | ((with_reducible refine gate_dst (N := 18) rfl ?_); refine bxL 34 #[(.int .i64 0), (.int .i64 0)] HS ?_; clear HS; intro g_pq w1 hg_pq HS) | ((with_reducible refine gate_store (t := 34) (p := 18) rfl ?_); refine stL HS 0 0 #[.int .i64 0, .int .i64 0] rfl rfl rfl rfl rfl ?_; clear HS; intro w1 HS) | ((with_reducible refine gate_store (t := 26) (p := 6) rfl ?_); refine stL HS 5 0 #[(.int .i64 0), (.int .i64 0), (.slice none 0 0)] rfl rfl rfl rfl rfl ?_; clear HS; intro w1 HS))
                      refine bodyPost_ret (results_cell_tmp_row rfl _ _ g_r 26 #[(.int .i64 0), (.int .i64 0), (.slice none 0 0)] (0, 0) _ rfl (HS.out.at (i := 5) rfl) Try.underlying26 rfl (by kernel_rfl)) rfl ?_
                      rw [sh_fail HZ.out HE1.out HY.out HE2.out (HOP.out.trans (foldM_none _ _ _ (k + 1) HN.out))]
                      exact ⟨none, 0, rfl, nilS (HS.out.sel [] (by decide))⟩
                    | some e =>
                      have hef := HQF.out e rfl
                      have HEF := Aside0.mk hef
                      obtain ⟨g, hg⟩ : ∃ g, g = put x s e := ⟨_, rfl⟩
                      have HPT := Aside0.mk (fun W k1 k2 => hg ▸ specPut B b x s e.1 e.2 W k1 k2 (isTs_bnd hd hn HT.out) (isTs_small HT.out) (by omega) (fr_small HEF.out))
                      have HG := Aside0.mk (fun v (hv : g = some v) => put_ts HT.out HSW.out.2 (by have := HSW.out.1; omega) HEF.out (hg.symm.trans hv))
                      replace HN := Aside0.mk (HN.out.trans (show (some e).bind (fun q => put x s q) = g from hg.symm))
                      clear hg hef HQF
                      cases g with
                      | none =>
                        clear HG
                        have f1_ := HS.out.str 0 rfl HE.out
                        go_wp2_with (first | (go_at_call 92; refine (HNM.out _).mono ?_; rintro e_ w1 ⟨rfl, hb⟩; replace HS := sB HS hb; clear hb f1_; have f1_ := HS.out.c 1 0 (v := .int .i64 f.1) rfl rfl; have f2_ := HS.out.c 1 1 (v := .int .i64 f.2) rfl rfl) | (go_at_call 121; refine (HQ.out _).mono ?_; rintro e_ w1 ⟨rfl, hb⟩; replace HS := sB HS hb; clear hb f1_ f2_) | ((with_reducible refine gate_dst (N := 18) rfl ?_); refine bxL 34 #[(.int .i64 0), (.int .i64 0)] HS ?_; clear HS; intro g_pq w1 hg_pq HS) | ((with_reducible refine gate_store (t := 34) (p := 18) rfl ?_); refine stL HS 0 0 #[.int .i64 e.1, .int .i64 e.2] rfl rfl rfl rfl rfl ?_; clear HS; intro w1 HS))
                        replace HS := sD HS
                        refine ps (.p 0 (.p 2 (.p 3 (.p 4 (.t 1 (.t 5 (.t 6 (.d 7 (.p 8 (.p 9 (.p 10 (.p 11 (.p 12 .done))))))))))))) (fun w' => w'.cell? ⟨g_q, 2, none⟩ = some (.slice B x.length b) ∧ w'.cell? (ad.add k) = some (.string s) ∧ w'.cell? ⟨g_pq, 0, none⟩ = some (.int .i64 e.1) ∧ w'.cell? ⟨g_pq, 1, none⟩ = some (.int .i64 e.2)) [7] ⟨HS.out.c 3 2 (v := .slice B x.length b) rfl rfl, HS.out.str 1 rfl HE.out, HS.out.c 0 0 (v := .int .i64 e.1) rfl rfl, HS.out.c 0 1 (v := .int .i64 e.2) rfl rfl⟩ (fun hHeld => ?_)
                        repeat (first | ((with_reducible refine gate_p ?_); refine rp rfl rfl ?_) | ((with_reducible refine gate_t ?_); refine rt rfl rfl hHeld ?_))
                        refine run_d rfl (fun K hK => ?_)
                        refine gc Try.func110 (HPT.out _ (HS.out.reads 4 rfl) (HS.out.cap 4 rfl)) rfl rfl ?_
                        rintro e_ w1 ⟨B2, b2, rfl, hs⟩
                        refine ⟨_, rfl, ?_⟩
                        replace HS := sN1 HS hs
                        clear hs
                        refine gd hK ?_
                        clear hK K
                        repeat (first | ((with_reducible refine gate_p ?_); refine rp rfl rfl ?_) | ((with_reducible refine gate_t ?_); refine rt rfl rfl hHeld ?_))
                        refine run_done ?_
                        clear hHeld
                        go_wp2_with (first | ((with_reducible refine gate_store (t := 26) (p := 6) rfl ?_); refine stL HS 6 0 #[(.int .i64 0), (.int .i64 0), (.slice none 0 0)] rfl rfl rfl rfl rfl ?_; clear HS; intro w1 HS))
                        refine bodyPost_ret (results_cell_tmp_row rfl _ _ g_r 26 #[(.int .i64 0), (.int .i64 0), (.slice none 0 0)] (0, 0) _ rfl (HS.out.at (i := 6) rfl) Try.underlying26 rfl (by kernel_rfl)) rfl ?_
                        rw [sh_fail HZ.out HE1.out HY.out HE2.out (HOP.out.trans (foldM_none _ _ _ (k + 1) HN.out))]
                        exact ⟨none, 0, rfl, nilS (HS.out.sel [] (by decide))⟩
                      | some v =>
                        have HGT := Aside0.mk (HG.out v rfl)
                        clear HG
                        have f1_ := HS.out.str 0 rfl HE.out
                        go_wp2_with (first | (go_at_call 92; refine (HNM.out _).mono ?_; rintro e_ w1 ⟨rfl, hb⟩; replace HS := sB HS hb; clear hb f1_; have f1_ := HS.out.c 1 0 (v := .int .i64 f.1) rfl rfl; have f2_ := HS.out.c 1 1 (v := .int .i64 f.2) rfl rfl) | (go_at_call 121; refine (HQ.out _).mono ?_; rintro e_ w1 ⟨rfl, hb⟩; replace HS := sB HS hb; clear hb f1_ f2_) | ((with_reducible refine gate_dst (N := 18) rfl ?_); refine bxL 34 #[(.int .i64 0), (.int .i64 0)] HS ?_; clear HS; intro g_pq w1 hg_pq HS) | ((with_reducible refine gate_store (t := 34) (p := 18) rfl ?_); refine stL HS 0 0 #[.int .i64 e.1, .int .i64 e.2] rfl rfl rfl rfl rfl ?_; clear HS; intro w1 HS))
                        replace HS := sD HS
                        refine ps (.p 0 (.p 2 (.p 3 (.p 4 (.t 1 (.t 5 (.t 6 (.d 7 (.p 8 (.p 9 (.p 10 (.p 11 (.p 12 .done))))))))))))) (fun w' => w'.cell? ⟨g_q, 2, none⟩ = some (.slice B x.length b) ∧ w'.cell? (ad.add k) = some (.string s) ∧ w'.cell? ⟨g_pq, 0, none⟩ = some (.int .i64 e.1) ∧ w'.cell? ⟨g_pq, 1, none⟩ = some (.int .i64 e.2)) [7] ⟨HS.out.c 3 2 (v := .slice B x.length b) rfl rfl, HS.out.str 1 rfl HE.out, HS.out.c 0 0 (v := .int .i64 e.1) rfl rfl, HS.out.c 0 1 (v := .int .i64 e.2) rfl rfl⟩ (fun hHeld => ?_)
                        repeat (first | ((with_reducible refine gate_p ?_); refine rp rfl rfl ?_) | ((with_reducible refine gate_t ?_); refine rt rfl rfl hHeld ?_))
                        refine run_d rfl (fun K hK => ?_)
                        refine gc Try.func110 (HPT.out _ (HS.out.reads 4 rfl) (HS.out.cap 4 rfl)) rfl rfl ?_
                        rintro e_ w1 ⟨B2, b2, rfl, hs⟩
                        refine ⟨_, rfl, ?_⟩
                        replace HS := sN1 HS hs
                        clear hs
                        refine gd hK ?_
                        clear hK K
                        repeat (first | ((with_reducible refine gate_p ?_); refine rp rfl rfl ?_) | ((with_reducible refine gate_t ?_); refine rt rfl rfl hHeld ?_))
                        refine run_done ?_
                        clear hHeld
                        go_wp2_with (first | ((with_reducible refine gate_store (t := 24) (p := 136) rfl ?_); refine stL HS 4 2 #[.int .i64 (d : Int), .int .i64 (n : Int), (.slice B2 v.length b2)] rfl rfl rfl rfl rfl ?_; clear HS; intro w1 HS))
                        go_roundw
                        case rel => exact ⟨k + 1, B2, b2, v, by omega, by go_num, HGT, HN, sX HS [2, 3, 4, 0, 6, 7, 8]⟩
                        case measure => simp [intOf]; omega
                · obtain rfl : k = u.length := by omega
                  have HX2 := Aside0.mk (HNX.out (HOP.out.trans (by have := HX.out; rwa [List.take_length] at this)))
                  go_wp2
                  replace HS : Aside0 (Mod _ _ _ [_, _, _, _, _]) := sX HS [2, 3, 4, 5, 6]
                  go_roundw
                  case rel => exact ⟨j + 1, B, b, x, by omega, by go_num, HT, HX2, HS⟩
                  case measure => simp [intOf]; omega
        · obtain rfl : j = l2.length := by omega
          have HN := Aside0.mk (show (l.take (i + 1)).foldlM (stepA d n false l2) [] = some y from (foldM_at HZ.out HE1.out).trans ((stepC_fold d n false t l2 z).symm.trans (by have := HY.out; rwa [List.take_length] at this)))
          have f1_ := HS.out.c 3 2 (v := .slice A2 l2.length cc) rfl rfl
          go_wp2
          go_roundw
          case rel => exact ⟨i + 1, B, b, y, by omega, by go_num, HT, HN, HS⟩
          case measure => simp [intOf]; omega
    · obtain rfl : i = l.length := by omega
      have f1_ := HS.out.c 4 2 (v := .slice A l.length c) rfl rfl
      have f2_ := HS.out.c 0 0 (v := .int .i64 (d : Int)) rfl rfl
      have f3_ := HS.out.c 0 1 (v := .int .i64 (n : Int)) rfl rfl
      have f4_ := HS.out.c 0 2 (v := .slice B z.length b) rfl rfl
      go_wp2_with (first | ((with_reducible refine gate_store (t := 26) (p := 6) rfl ?_); refine stL HS 2 0 #[.int .i64 (d : Int), .int .i64 (n : Int), .slice B z.length b] rfl rfl rfl rfl rfl ?_; clear HS f1_ f2_ f3_ f4_; intro w1 HS))
      refine bodyPost_ret (results_cell_tmp_row rfl _ _ g_r 26 #[.int .i64 (d : Int), .int .i64 (n : Int), .slice B z.length b] (0, 0) _ rfl (HS.out.at (i := 2) rfl) Try.underlying26 rfl (by kernel_rfl)) rfl ?_
      have e_ : shS d n false l l2 = some z := by have := HZ.out; rwa [List.take_length] at this
      rw [e_]
      exact ⟨B, b, rfl, HS.out.sel [1] (by decide)⟩
end Go.Proofs.Ytibjkjhpfmmjoaa.H



namespace Go.Proofs.Ytibjkjhpfmmjoaa.H
open Go.RowKit Go.Proofs.YtibjkjhpfmmjoaaW.PrintWords Go.Proofs.YtibjkjhpfmmjoaaW.PrintLast Go.Proofs.YtibjkjhpfmmjoaaW.PrintMore Go.Proofs.Ytibjkjhpfmmjoaa.M
attribute [local go_sem] max2_int min2_int max_two min_two max_three min_three max_four min_four resQ
set_option linter.unusedVariables false
set_option linter.unusedSimpArgs false
set_option maxRecDepth 100000
set_option maxHeartbeats 8000000 in
theorem specShuffleSeries (d n : Int) (A : Option Addr) (c : Nat) (l : Ts) (d2 n2 : Int) (A2 : Option Addr) (cc : Nat) (l2 : Ts) (w : World) (hr : KT.C w A l.length l) (hc : l.length ≤ c) (hb : bnd l = true) (hr2 : KT.C w A2 l2.length l2) (hcc : l2.length ≤ cc) (hb2 : bnd l2 = true) :
    Calls Try.prog 44 #[.agg #[.int .i64 d, .int .i64 n, .slice A l.length c], .agg #[.int .i64 d2, .int .i64 n2, .slice A2 l2.length cc]] w (RetS w (twoR shF d n l d2 n2 l2)) := by
  have HR := Aside0.mk hr
  have HB := Aside0.mk hb
  have HR2 := Aside0.mk hr2
  have HB2 := Aside0.mk hb2
  have HS := Aside0.mk (Sep.refl w)
  clear hr hb hr2 hb2
  have HC := Aside0.mk (fun q W k1 k2 k3 => specCode d n A c l d2 n2 A2 cc l2 q W k1 hc HB.out k2 hcc HB2.out k3)
  unfold twoR
  obtain ⟨k, hk⟩ : ∃ k, k = codeR d n l d2 n2 l2 := ⟨_, rfl⟩
  rw [← hk] at HC
  rw [← hk]
  by_cases h0 : k = 0
  · subst h0
    obtain ⟨h1, h2, h3, h4⟩ := codeR_zero hk.symm
    subst h3 h4
    clear hk
    obtain ⟨d, n, rfl, rfl, hd1, hd3, hn1, hn5⟩ := lev_nat (isS_l h1)
    have HP := Aside0.mk (fun W k1 k2 => shF_def d n l l2 ▸ specShuffleF d n hd3 hn5 A c l A2 cc l2 W k1 hc k2 hcc (isS_t h1) (isS_t h2))
    rw [Int.toNat_natCast, Int.toNat_natCast]
    clear h1 h2
    rw [if_pos rfl]
    obtain ⟨o, ho⟩ : ∃ o, o = shF d n l l2 := ⟨_, rfl⟩
    rw [← ho] at HP
    rw [← ho]
    clear ho
    cases o with
    | none =>
      go_enter Try.func44, Try.ntmps44
      go_wp2_with (first | ((with_reducible refine gate_dst (N := 2) rfl ?_); refine bxL 26 #[.int .i64 (d : Int), .int .i64 (n : Int), .slice A l.length c] HS ?_; clear HS; intro g_p w1 hg_p HS) | ((with_reducible refine gate_dst (N := 3) rfl ?_); refine bxL 26 #[.int .i64 (d : Int), .int .i64 (n : Int), .slice A2 l2.length cc] HS ?_; clear HS; intro g_a w1 hg_a HS) | ((with_reducible refine gate_dst (N := 4) rfl ?_); refine bxL 26 #[(.int .i64 0), (.int .i64 0), (.slice none 0 0)] HS ?_; clear HS; intro g_r w1 hg_r HS; have f1_ := HS.out.c 2 0 (v := .int .i64 (d : Int)) rfl rfl; have f2_ := HS.out.c 2 1 (v := .int .i64 (n : Int)) rfl rfl; have f3_ := HS.out.c 2 2 (v := .slice A l.length c) rfl rfl; have f4_ := HS.out.c 1 0 (v := .int .i64 (d : Int)) rfl rfl; have f5_ := HS.out.c 1 1 (v := .int .i64 (n : Int)) rfl rfl; have f6_ := HS.out.c 1 2 (v := .slice A2 l2.length cc) rfl rfl) | ((with_reducible refine gate_dst (N := 11) rfl ?_); refine wpList_stp (fun K hK => ?_); refine stp_bs (by rfl) HS (cs := #[.int .i64 (d : Int), .int .i64 (n : Int), .slice A2 l2.length cc]) (t := 26) (m := 1) (by first | (go_simp; done) | (go_simp; rfl)) ?_; clear HS f1_ f2_ f3_ f4_ f5_ f6_; intro g_v w1 hg_v HS; refine hK _ _ ?_; clear hK K) | (go_at_call 70; refine (HC.out g_v _ (HS.out.oldC HR.out) (HS.out.oldC HR2.out) (HS.out.at (i := 0) rfl)).mono ?_; rintro e_ w1 ⟨rfl, hb⟩; replace HS := sB HS hb; clear hb; have f1_ := HS.out.c 3 0 (v := .int .i64 (d : Int)) rfl rfl; have f2_ := HS.out.c 3 1 (v := .int .i64 (n : Int)) rfl rfl; have f3_ := HS.out.c 3 2 (v := .slice A l.length c) rfl rfl; have f4_ := HS.out.c 2 0 (v := .int .i64 (d : Int)) rfl rfl; have f5_ := HS.out.c 2 1 (v := .int .i64 (n : Int)) rfl rfl; have f6_ := HS.out.c 2 2 (v := .slice A2 l2.length cc) rfl rfl) | (go_at_call 95; refine (HP.out _ (HS.out.oldC HR.out) (HS.out.oldC HR2.out)).mono ?_; rintro e_ w1 ⟨B, b, rfl, hs⟩; replace HS := sN1 HS hs; clear hs f1_ f2_ f3_ f4_ f5_ f6_) | ((with_reducible refine gate_dst (N := 7) rfl ?_); refine bxL 26 #[(.int .i64 0), (.int .i64 0), (.slice none 0 0)] HS ?_; clear HS; intro g_q w1 hg_q HS) | ((with_reducible refine gate_store (t := 26) (p := 7) rfl ?_); refine stL HS 0 0 #[.int .i64 0, .int .i64 0, .slice B ([] : Ts).length b] rfl rfl rfl rfl rfl ?_; clear HS; intro w1 HS) | ((with_reducible refine gate_store (t := 26) (p := 4) rfl ?_); refine stL HS 3 0 #[(.int .i64 0), (.int .i64 0), (.slice none 0 0)] rfl rfl rfl rfl rfl ?_; clear HS; intro w1 HS))
      refine bodyPost_ret (results_cell_tmp_row rfl _ _ g_r 26 #[(.int .i64 0), (.int .i64 0), (.slice none 0 0)] (0, 0) _ rfl (HS.out.at (i := 3) rfl) Try.underlying26 rfl (by kernel_rfl)) rfl ?_
      exact ⟨none, 0, rfl, nilS (HS.out.sel [] (by decide))⟩
    | some z =>
      go_enter Try.func44, Try.ntmps44
      go_wp2_with (first | ((with_reducible refine gate_dst (N := 2) rfl ?_); refine bxL 26 #[.int .i64 (d : Int), .int .i64 (n : Int), .slice A l.length c] HS ?_; clear HS; intro g_p w1 hg_p HS) | ((with_reducible refine gate_dst (N := 3) rfl ?_); refine bxL 26 #[.int .i64 (d : Int), .int .i64 (n : Int), .slice A2 l2.length cc] HS ?_; clear HS; intro g_a w1 hg_a HS) | ((with_reducible refine gate_dst (N := 4) rfl ?_); refine bxL 26 #[(.int .i64 0), (.int .i64 0), (.slice none 0 0)] HS ?_; clear HS; intro g_r w1 hg_r HS; have f1_ := HS.out.c 2 0 (v := .int .i64 (d : Int)) rfl rfl; have f2_ := HS.out.c 2 1 (v := .int .i64 (n : Int)) rfl rfl; have f3_ := HS.out.c 2 2 (v := .slice A l.length c) rfl rfl; have f4_ := HS.out.c 1 0 (v := .int .i64 (d : Int)) rfl rfl; have f5_ := HS.out.c 1 1 (v := .int .i64 (n : Int)) rfl rfl; have f6_ := HS.out.c 1 2 (v := .slice A2 l2.length cc) rfl rfl) | ((with_reducible refine gate_dst (N := 11) rfl ?_); refine wpList_stp (fun K hK => ?_); refine stp_bs (by rfl) HS (cs := #[.int .i64 (d : Int), .int .i64 (n : Int), .slice A2 l2.length cc]) (t := 26) (m := 1) (by first | (go_simp; done) | (go_simp; rfl)) ?_; clear HS f1_ f2_ f3_ f4_ f5_ f6_; intro g_v w1 hg_v HS; refine hK _ _ ?_; clear hK K) | (go_at_call 70; refine (HC.out g_v _ (HS.out.oldC HR.out) (HS.out.oldC HR2.out) (HS.out.at (i := 0) rfl)).mono ?_; rintro e_ w1 ⟨rfl, hb⟩; replace HS := sB HS hb; clear hb; have f1_ := HS.out.c 3 0 (v := .int .i64 (d : Int)) rfl rfl; have f2_ := HS.out.c 3 1 (v := .int .i64 (n : Int)) rfl rfl; have f3_ := HS.out.c 3 2 (v := .slice A l.length c) rfl rfl; have f4_ := HS.out.c 2 0 (v := .int .i64 (d : Int)) rfl rfl; have f5_ := HS.out.c 2 1 (v := .int .i64 (n : Int)) rfl rfl; have f6_ := HS.out.c 2 2 (v := .slice A2 l2.length cc) rfl rfl) | (go_at_call 95; refine (HP.out _ (HS.out.oldC HR.out) (HS.out.oldC HR2.out)).mono ?_; rintro e_ w1 ⟨B, b, rfl, hs⟩; replace HS := sN1 HS hs; clear hs f1_ f2_ f3_ f4_ f5_ f6_) | ((with_reducible refine gate_dst (N := 7) rfl ?_); refine bxL 26 #[(.int .i64 0), (.int .i64 0), (.slice none 0 0)] HS ?_; clear HS; intro g_q w1 hg_q HS) | ((with_reducible refine gate_store (t := 26) (p := 7) rfl ?_); refine stL HS 0 0 #[.int .i64 (d : Int), .int .i64 (n : Int), .slice B z.length b] rfl rfl rfl rfl rfl ?_; clear HS; intro w1 HS; have f1_ := HS.out.c 0 0 (v := .int .i64 (d : Int)) rfl rfl; have f2_ := HS.out.c 0 1 (v := .int .i64 (n : Int)) rfl rfl; have f3_ := HS.out.c 0 2 (v := .slice B z.length b) rfl rfl) | ((with_reducible refine gate_store (t := 26) (p := 4) rfl ?_); refine stL HS 3 0 #[.int .i64 (d : Int), .int .i64 (n : Int), .slice B z.length b] rfl rfl rfl rfl rfl ?_; clear HS f1_ f2_ f3_; intro w1 HS))
      refine bodyPost_ret (results_cell_tmp_row rfl _ _ g_r 26 #[.int .i64 (d : Int), .int .i64 (n : Int), .slice B z.length b] (0, 0) _ rfl (HS.out.at (i := 3) rfl) Try.underlying26 rfl (by kernel_rfl)) rfl ?_
      exact ⟨B, b, rfl, HS.out.sel [1] (by decide)⟩
  · have hkb : (k != 0) = true := by simpa using h0
    rw [if_neg h0]
    clear hk h0
    go_enter Try.func44, Try.ntmps44
    go_wp2_with (first | ((with_reducible refine gate_dst (N := 2) rfl ?_); refine bxL 26 #[.int .i64 d, .int .i64 n, .slice A l.length c] HS ?_; clear HS; intro g_p w1 hg_p HS) | ((with_reducible refine gate_dst (N := 3) rfl ?_); refine bxL 26 #[.int .i64 d2, .int .i64 n2, .slice A2 l2.length cc] HS ?_; clear HS; intro g_a w1 hg_a HS) | ((with_reducible refine gate_dst (N := 4) rfl ?_); refine bxL 26 #[(.int .i64 0), (.int .i64 0), (.slice none 0 0)] HS ?_; clear HS; intro g_r w1 hg_r HS; have f1_ := HS.out.c 2 0 (v := .int .i64 d) rfl rfl; have f2_ := HS.out.c 2 1 (v := .int .i64 n) rfl rfl; have f3_ := HS.out.c 2 2 (v := .slice A l.length c) rfl rfl; have f4_ := HS.out.c 1 0 (v := .int .i64 d2) rfl rfl; have f5_ := HS.out.c 1 1 (v := .int .i64 n2) rfl rfl; have f6_ := HS.out.c 1 2 (v := .slice A2 l2.length cc) rfl rfl) | ((with_reducible refine gate_dst (N := 11) rfl ?_); refine wpList_stp (fun K hK => ?_); refine stp_bs (by rfl) HS (cs := #[.int .i64 d2, .int .i64 n2, .slice A2 l2.length cc]) (t := 26) (m := 1) (by first | (go_simp; done) | (go_simp; rfl)) ?_; clear HS f1_ f2_ f3_ f4_ f5_ f6_; intro g_v w1 hg_v HS; refine hK _ _ ?_; clear hK K) | (go_at_call 70; refine (HC.out g_v _ (HS.out.oldC HR.out) (HS.out.oldC HR2.out) (HS.out.at (i := 0) rfl)).mono ?_; rintro e_ w1 ⟨rfl, hb⟩; replace HS := sB HS hb; clear hb) | ((with_reducible refine gate_store (t := 26) (p := 4) rfl ?_); refine stL HS 1 0 #[(.int .i64 0), (.int .i64 0), (.slice none 0 0)] rfl rfl rfl rfl rfl ?_; clear HS; intro w1 HS))
    refine bodyPost_ret (results_cell_tmp_row rfl _ _ g_r 26 #[(.int .i64 0), (.int .i64 0), (.slice none 0 0)] (0, 0) _ rfl (HS.out.at (i := 1) rfl) Try.underlying26 rfl (by kernel_rfl)) rfl ?_
    exact ⟨none, 0, rfl, nilS (HS.out.sel [] (by decide))⟩
set_option maxHeartbeats 8000000 in
theorem implShuffleSeries (d n : Int) (A : Option Addr) (c : Nat) (l : Ts) (d2 n2 : Int) (A2 : Option Addr) (cc : Nat) (l2 : Ts) (w : World) (hr : KT.C w A l.length l) (hc : l.length ≤ c) (hb : bnd l = true) (hr2 : KT.C w A2 l2.length l2) (hcc : l2.length ≤ cc) (hb2 : bnd l2 = true) :
    Calls Try.prog 41 #[.agg #[.int .i64 d, .int .i64 n, .slice A l.length c], .agg #[.int .i64 d2, .int .i64 n2, .slice A2 l2.length cc]] w (RetS w (twoR shF d n l d2 n2 l2)) := by
  have HR := Aside0.mk hr
  have HB := Aside0.mk hb
  have HR2 := Aside0.mk hr2
  have HB2 := Aside0.mk hb2
  have HS := Aside0.mk (Sep.refl w)
  clear hr hb hr2 hb2
  have HC := Aside0.mk (fun W k1 k2 => implCode d n A c l d2 n2 A2 cc l2 W k1 hc HB.out k2 hcc HB2.out)
  unfold twoR
  obtain ⟨k, hk⟩ : ∃ k, k = codeR d n l d2 n2 l2 := ⟨_, rfl⟩
  rw [← hk] at HC
  rw [← hk]
  by_cases h0 : k = 0
  · subst h0
    obtain ⟨h1, h2, h3, h4⟩ := codeR_zero hk.symm
    subst h3 h4
    clear hk
    have HX := Aside0.mk (isS_t h1)
    have HY := Aside0.mk (isS_t h2)
    have hlev := isS_l h1
    obtain ⟨d, n, rfl, rfl, hd1, hd3, hn1, hn5⟩ := lev_nat hlev
    have HL := Aside0.mk hlev
    clear h1 h2 hlev
    rw [Int.toNat_natCast, Int.toNat_natCast] at HX HY
    rw [Int.toNat_natCast, Int.toNat_natCast]
    rw [if_pos rfl]
    go_enter Try.func41, Try.ntmps41
    go_wp2_with (first | ((with_reducible refine gate_dst (N := 2) rfl ?_); refine bxL 26 #[.int .i64 (d : Int), .int .i64 (n : Int), .slice A l.length c] HS ?_; clear HS; intro g_p w1 hg_p HS) | ((with_reducible refine gate_dst (N := 3) rfl ?_); refine bxL 26 #[.int .i64 (d : Int), .int .i64 (n : Int), .slice A2 l2.length cc] HS ?_; clear HS; intro g_a w1 hg_a HS) | ((with_reducible refine gate_dst (N := 4) rfl ?_); refine bxL 26 #[(.int .i64 0), (.int .i64 0), (.slice none 0 0)] HS ?_; clear HS; intro g_r w1 hg_r HS; have f1_ := HS.out.c 2 0 (v := .int .i64 (d : Int)) rfl rfl; have f2_ := HS.out.c 2 1 (v := .int .i64 (n : Int)) rfl rfl; have f3_ := HS.out.c 2 2 (v := .slice A l.length c) rfl rfl; have f4_ := HS.out.c 1 0 (v := .int .i64 (d : Int)) rfl rfl; have f5_ := HS.out.c 1 1 (v := .int .i64 (n : Int)) rfl rfl; have f6_ := HS.out.c 1 2 (v := .slice A2 l2.length cc) rfl rfl) | (go_at_call 67; refine (HC.out _ (HS.out.oldC HR.out) (HS.out.oldC HR2.out)).mono ?_; rintro e_ w1 ⟨rfl, hb⟩; replace HS := sB HS hb; clear hb f1_ f2_ f3_ f4_ f5_ f6_; have f1_ := HS.out.c 2 0 (v := .int .i64 (d : Int)) rfl rfl; have f2_ := HS.out.c 2 1 (v := .int .i64 (n : Int)) rfl rfl; have f3_ := HS.out.c 2 2 (v := .slice A l.length c) rfl rfl; have f4_ := HS.out.c 1 0 (v := .int .i64 (d : Int)) rfl rfl; have f5_ := HS.out.c 1 1 (v := .int .i64 (n : Int)) rfl rfl; have f6_ := HS.out.c 1 2 (v := .slice A2 l2.length cc) rfl rfl) | (go_at_call 87; refine (implShuffledF d n HL.out A c l A2 cc l2 _ (HS.out.oldC HR.out) (HS.out.oldC HR2.out) HX.out HY.out).mono ?_; rintro e_ w1 ⟨g3, v3, F3, rfl, hF, hQ, hs⟩; replace HS := sN2 HS hs; clear hs f1_ f2_ f3_ f4_ f5_ f6_; have HF3 := Aside0.mk hF; have HQ3 : Aside0 (Rel d n (shF d n l l2) F3) := Aside0.mk hQ; clear hF hQ) | (go_at_call 69; refine (tabTold HL.out ⟨HF3.out, HQ3.out, HS.out.at (i := 0) rfl, HS.out.at (i := 1) rfl⟩).mono ?_; rintro e_ w1 ⟨B, b, rfl, hs⟩; replace HS := sN1 HS hs; clear hs) | ((with_reducible refine gate_store (t := 26) (p := 4) rfl ?_); refine stL HS 3 0 #[.int .i64 (resO d n (shF d n l l2)).1, .int .i64 (resO d n (shF d n l l2)).2.1, .slice B (resO d n (shF d n l l2)).2.2.1.length b] rfl rfl rfl rfl rfl ?_; clear HS; intro w1 HS))
    refine bodyPost_ret (results_cell_tmp_row rfl _ _ g_r 26 #[.int .i64 (resO d n (shF d n l l2)).1, .int .i64 (resO d n (shF d n l l2)).2.1, .slice B (resO d n (shF d n l l2)).2.2.1.length b] (0, 0) _ rfl (HS.out.at (i := 3) rfl) Try.underlying26 rfl (by kernel_rfl)) rfl ?_
    exact ⟨B, b, rfl, HS.out.sel [0] (by decide)⟩
  · have hkb : (k != 0) = true := by simpa using h0
    rw [if_neg h0]
    clear hk h0
    go_enter Try.func41, Try.ntmps41
    go_wp2_with (first | ((with_reducible refine gate_dst (N := 2) rfl ?_); refine bxL 26 #[.int .i64 d, .int .i64 n, .slice A l.length c] HS ?_; clear HS; intro g_p w1 hg_p HS) | ((with_reducible refine gate_dst (N := 3) rfl ?_); refine bxL 26 #[.int .i64 d2, .int .i64 n2, .slice A2 l2.length cc] HS ?_; clear HS; intro g_a w1 hg_a HS) | ((with_reducible refine gate_dst (N := 4) rfl ?_); refine bxL 26 #[(.int .i64 0), (.int .i64 0), (.slice none 0 0)] HS ?_; clear HS; intro g_r w1 hg_r HS; have f1_ := HS.out.c 2 0 (v := .int .i64 d) rfl rfl; have f2_ := HS.out.c 2 1 (v := .int .i64 n) rfl rfl; have f3_ := HS.out.c 2 2 (v := .slice A l.length c) rfl rfl; have f4_ := HS.out.c 1 0 (v := .int .i64 d2) rfl rfl; have f5_ := HS.out.c 1 1 (v := .int .i64 n2) rfl rfl; have f6_ := HS.out.c 1 2 (v := .slice A2 l2.length cc) rfl rfl) | (go_at_call 67; refine (HC.out _ (HS.out.oldC HR.out) (HS.out.oldC HR2.out)).mono ?_; rintro e_ w1 ⟨rfl, hb⟩; replace HS := sB HS hb; clear hb f1_ f2_ f3_ f4_ f5_ f6_) | ((with_reducible refine gate_store (t := 26) (p := 4) rfl ?_); refine stL HS 0 0 #[(.int .i64 0), (.int .i64 0), (.slice none 0 0)] rfl rfl rfl rfl rfl ?_; clear HS; intro w1 HS))
    refine bodyPost_ret (results_cell_tmp_row rfl _ _ g_r 26 #[(.int .i64 0), (.int .i64 0), (.slice none 0 0)] (0, 0) _ rfl (HS.out.at (i := 0) rfl) Try.underlying26 rfl (by kernel_rfl)) rfl ?_
    exact ⟨none, 0, rfl, nilS (HS.out.sel [] (by decide))⟩
end Go.Proofs.Ytibjkjhpfmmjoaa.H



namespace Go.Proofs.Ytibjkjhpfmmjoaa.H
open Go.RowKit Go.Proofs.YtibjkjhpfmmjoaaW.PrintWords Go.Proofs.YtibjkjhpfmmjoaaW.PrintLast Go.Proofs.YtibjkjhpfmmjoaaW.PrintMore Go.Proofs.Ytibjkjhpfmmjoaa.M
attribute [local go_sem] max2_int min2_int max_two min_two max_three min_three max_four min_four
set_option linter.unusedVariables false
set_option linter.unusedSimpArgs false
set_option maxRecDepth 100000
abbrev hshN (v w u : ByteArray) : Nat := hsh (bl v) (bl w) (bl u)
theorem ne_isEmpty {v : ByteArray} (h : 0 < v.size) : v.toList.isEmpty = false := by
  rw [ByteArray.toList_eq]
  have h1 : 0 < v.data.toList.length := by rw [Array.length_toList]; exact h
  cases hh : v.data.toList with
  | nil => rw [hh] at h1; simp at h1
  | cons a l => rfl
theorem hsh_cut {v w u : ByteArray} (hv : 0 < v.size) (hu : 0 < u.size) : hshN v w u = if (bl u).getD 0 0 = (bl v).getD 0 0 then shN (v.extract 1 v.size) w (u.extract 1 u.size) else 0 := by
  unfold shN hshN
  rw [cut_bl, cut_bl]
  have h1 := bl_len v
  have h2 := bl_len u
  cases hbu : bl u with
  | nil => rw [hbu] at h2; simp at h2; omega
  | cons c x =>
    cases hbv : bl v with
    | nil => rw [hbv] at h1; simp at h1; omega
    | cons a y => unfold hsh; simp [eq_comm]
theorem half_cases {v w u : ByteArray} (hv : 0 < v.size) (hu : 0 < u.size) : (∃ cu cv : Int, (∀ h : 0 < u.size, ((u[0]'h).toNat : Int) = cu) ∧ (∀ h : 0 < v.size, ((v[0]'h).toNat : Int) = cv) ∧ (cu != cv) = false ∧ (cv != cu) = false ∧ hshN v w u = shN (v.extract 1 v.size) w (u.extract 1 u.size)) ∨
    (∃ cu cv : Int, (∀ h : 0 < u.size, ((u[0]'h).toNat : Int) = cu) ∧ (∀ h : 0 < v.size, ((v[0]'h).toNat : Int) = cv) ∧ (cu != cv) = true ∧ (cv != cu) = true ∧ hshN v w u = 0) := by
  have hb := byte_eq u v 0 0 hu hv
  have hc := hsh_cut (w := w) hv hu
  by_cases he : ((u[0]'hu).toNat : Int) = ((v[0]'hv).toNat : Int)
  · exact .inl ⟨((u[0]'hu).toNat : Int), ((v[0]'hv).toNat : Int), fun _ => rfl, fun _ => rfl, by simp [he], by simp [he], by rw [hc, if_pos (hb.1 he)]⟩
  · exact .inr ⟨((u[0]'hu).toNat : Int), ((v[0]'hv).toNat : Int), fun _ => rfl, fun _ => rfl, by simpa using he, by simpa using fun h => he h.symm, by rw [hc, if_neg (fun h => he (hb.2 h))]⟩
set_option maxHeartbeats 8000000 in
theorem specHalf (v w u : ByteArray) (W : World) (hv : v.size ≤ 16) (hw : w.size ≤ 16) (hu : u.size ≤ 16) (hv0 : 0 < v.size) (hu0 : 0 < u.size) : Calls Try.prog 132 #[.string v, .string w, .string u] W fun e w' => e = .returned (.int .i64 ((hshN v w u : Nat) : Int)) ∧ Below W.heap.size W w' := by
  have hub : ((u.size : Int) == 0) = false := by rw [beq_eq_false_iff_ne]; omega
  have hv1 : (1 : Int) ≤ (v.size : Int) := by omega
  have hu1 : (1 : Int) ≤ (u.size : Int) := by omega
  rcases half_cases (w := w) hv0 hu0 with ⟨cu, cv, hcu, hcv, e1, e2, hh⟩ | ⟨cu, cv, hcu, hcv, e1, e2, hh⟩
  · have HN := Aside0.mk (fun X => specNum (v.extract 1 v.size) w (u.extract 1 u.size) X (by rw [cut_size]; omega) hw (by rw [cut_size]; omega))
    rw [← hh] at HN
    obtain ⟨m, hm⟩ : ∃ m, m = hshN v w u := ⟨_, rfl⟩
    rw [← hm] at HN ⊢
    clear hh hm
    have HS := Aside0.mk (Sep.refl W)
    go_enter Try.func132, Try.ntmps132
    go_wp2
    replace HS := sD HS
    refine ps (.p 0 (.p 1 (.p 2 (.p 3 (.p 4 (.p 5 (.p 6 (.p 7 (.p 8 (.p 9 .done)))))))))) (fun w' => True) [] trivial (fun hHeld => ?_)
    repeat (first | ((with_reducible refine gate_p ?_); refine rp rfl rfl ?_))
    refine run_done ?_
    clear hHeld
    go_wp2
    replace HS := sD HS
    refine ps (.p 0 (.p 1 (.p 2 (.p 3 (.p 4 (.e 5 (.p 6 .done))))))) (fun w' => True) [] trivial (fun hHeld => ?_)
    repeat (first | ((with_reducible refine gate_p ?_); refine rp rfl rfl ?_))
    refine run_e rfl (fun K hK => ?_)
    refine gc Try.func92 (HN.out _) rfl rfl ?_
    rintro e_ w1 ⟨rfl, hb⟩
    refine ⟨_, rfl, ?_⟩
    replace HS := sB HS hb
    clear hb
    refine ge hK trivial (fun hHeld => ?_)
    clear hK K
    repeat (first | ((with_reducible refine gate_p ?_); refine rp rfl rfl ?_))
    refine run_done ?_
    clear hHeld
    go_wp2
    go_ret
    exact ⟨rfl, HS.out.below⟩
  · rw [hh]
    clear hh
    have HS := Aside0.mk (Sep.refl W)
    go_enter Try.func132, Try.ntmps132
    go_wp2
    replace HS := sD HS
    refine ps (.p 0 (.p 1 (.p 2 (.p 3 (.p 4 (.p 5 (.p 6 (.p 7 (.p 8 (.p 9 .done)))))))))) (fun w' => True) [] trivial (fun hHeld => ?_)
    repeat (first | ((with_reducible refine gate_p ?_); refine rp rfl rfl ?_))
    refine run_done ?_
    clear hHeld
    go_wp2
    go_ret
    exact ⟨rfl, HS.out.below⟩
set_option maxHeartbeats 8000000 in
theorem implHalf (v w u : ByteArray) (W : World) (hv : v.size ≤ 16) (hw : w.size ≤ 16) (hu : u.size ≤ 16) (hv0 : 0 < v.size) (hu0 : 0 < u.size) : Calls Try.prog 94 #[.string v, .string w, .string u] W fun e w' => e = .returned (.int .i64 ((hshN v w u : Nat) : Int)) ∧ Below W.heap.size W w' := by
  have hue := ne_isEmpty hu0
  have hve := ne_isEmpty hv0
  have hv1 : (1 : Int) ≤ (v.size : Int) := by omega
  have hu1 : (1 : Int) ≤ (u.size : Int) := by omega
  rcases half_cases (w := w) hv0 hu0 with ⟨cu, cv, hcu, hcv, e1, e2, hh⟩ | ⟨cu, cv, hcu, hcv, e1, e2, hh⟩
  · have HN := Aside0.mk (fun X => implShuffleNumber (v.extract 1 v.size) w (u.extract 1 u.size) X (by rw [cut_size]; omega) hw (by rw [cut_size]; omega))
    have HE := Aside0.mk hh
    obtain ⟨m, hm⟩ : ∃ m, m = hshN v w u := ⟨_, rfl⟩
    have HN2 := Aside0.mk (fun X => (show Calls Try.prog 88 #[.string (v.extract 1 v.size), .string w, .string (u.extract 1 u.size)] X fun e w' => e = .returned (.int .i64 ((m : Nat) : Int)) ∧ Below X.heap.size X w' by rw [hm, HE.out]; exact HN.out X))
    rw [← hm]
    clear hh hm HN HE
    have HS := Aside0.mk (Sep.refl W)
    go_enter Try.func94, Try.ntmps94
    go_wp2
    replace HS := sD HS
    refine ps (.p 0 (.p 1 (.p 2 (.p 3 (.p 4 (.p 5 (.p 6 (.p 7 (.p 8 (.p 9 (.p 10 (.p 11 (.p 12 .done))))))))))))) (fun w' => True) [] trivial (fun hHeld => ?_)
    repeat (first | ((with_reducible refine gate_p ?_); refine rp rfl rfl ?_))
    refine run_done ?_
    clear hHeld
    go_wp2
    replace HS := sD HS
    refine ps (.p 0 (.p 1 (.p 2 (.p 3 (.p 4 (.e 5 (.p 6 .done))))))) (fun w' => True) [] trivial (fun hHeld => ?_)
    repeat (first | ((with_reducible refine gate_p ?_); refine rp rfl rfl ?_))
    refine run_e rfl (fun K hK => ?_)
    refine gc Try.func88 (HN2.out _) rfl rfl ?_
    rintro e_ w1 ⟨rfl, hb⟩
    refine ⟨_, rfl, ?_⟩
    replace HS := sB HS hb
    clear hb
    refine ge hK trivial (fun hHeld => ?_)
    clear hK K
    repeat (first | ((with_reducible refine gate_p ?_); refine rp rfl rfl ?_))
    refine run_done ?_
    clear hHeld
    go_wp2
    go_ret
    exact ⟨rfl, HS.out.below⟩
  · rw [hh]
    clear hh
    have HS := Aside0.mk (Sep.refl W)
    go_enter Try.func94, Try.ntmps94
    go_wp2
    replace HS := sD HS
    refine ps (.p 0 (.p 1 (.p 2 (.p 3 (.p 4 (.p 5 (.p 6 (.p 7 (.p 8 (.p 9 (.p 10 (.p 11 (.p 12 .done))))))))))))) (fun w' => True) [] trivial (fun hHeld => ?_)
    repeat (first | ((with_reducible refine gate_p ?_); refine rp rfl rfl ?_))
    refine run_done ?_
    clear hHeld
    go_wp2
    go_ret
    exact ⟨rfl, HS.out.below⟩
end Go.Proofs.Ytibjkjhpfmmjoaa.H



