/- A multiple added: what the reference's l02Add returns. Conditions: the bounds that stand in each statement. -/
import Derived.Test.YtcklblagklojhaaKPut
import Derived.Test.YtcklblagklojhaaKBasic
import Derived.Test.YtcklblagklojhaaKTab
namespace Go.Proofs.Ytcklblagklojhaa.M
theorem scF_run {a : Fr} : ∀ {l y z : Ts}, l.foldlM (scF a) y = some z → z.length = y.length + l.length
  | [], y, z, h => by
    have : y = z := by simpa using h
    rw [this]; rfl
  | t :: r, y, z, h => by
    rw [List.foldlM_cons] at h
    unfold scF at h
    cases hm : mul t.2 a with
    | none => rw [hm] at h; cases h
    | some c =>
      rw [hm] at h
      have := scF_run (l := r) (y := y ++ [(t.1, c)]) (z := z) h
      rw [this, List.length_append, List.length_cons]
      simp; omega
theorem sc_fold {l : Ts} {a : Fr} (h : a.1 ≠ 0) : scS l a = l.foldlM (scF a) [] := by unfold scS; rw [if_neg h]
end Go.Proofs.Ytcklblagklojhaa.M
namespace Go.Proofs.Ytcklblagklojhaa.H
open Go.RowKit Go.Proofs.YtcklblagklojhaaW.PrintWords Go.Proofs.YtcklblagklojhaaW.PrintLast Go.Proofs.YtcklblagklojhaaW.PrintMore Go.Proofs.Ytcklblagklojhaa.M
attribute [local go_sem] max2_int min2_int max_two min_two max_three min_three max_four min_four resP
set_option linter.unusedVariables false
set_option linter.unusedSimpArgs false
set_option maxRecDepth 100000
theorem Mod.tm {w W : World} {S : Nat → Prop} {L : List As} (h : Mod w W S L) (i : Nat) {ad : Addr} {c : Nat} {u : Ts} (hi : L[i]? = some (rowT (some ad) c u)) {j : Nat} {t : Tm} (hj : u[j]? = some t) :
    W.cell? (ad.add (j * 3)) = some (.string t.1) ∧ W.cell? ⟨(ad.add (j * 3)).block, (ad.add (j * 3)).off + 1, none⟩ = some (.int .i64 t.2.1) ∧ W.cell? ⟨(ad.add (j * 3)).block, (ad.add (j * 3)).off + 2, none⟩ = some (.int .i64 t.2.2) := by
  obtain ⟨h1, h2⟩ := List.getElem?_eq_some_iff.1 hj
  obtain ⟨ad', e, h0, h3, h4⟩ := tm_at (h.reads i hi) j h1
  cases e
  rw [List.getD_eq_getElem?_getD, hj] at h0 h3 h4
  exact ⟨h0, h3, h4⟩
set_option maxHeartbeats 16000000 in
theorem specAddk (d n : Nat) (hd : d ≤ 3) (hn : n ≤ 5) (A : Option Addr) (c : Nat) (l : Ts) (A2 : Option Addr) (cc : Nat) (l2 : Ts) (k : Fr) (w : World) (hr : KT.C w A l.length l) (hr2 : KT.C w A2 l2.length l2) (hx : isTs d n l = true) (hy : isTs d n l2 = true) (hk : fr k = true) (h0 : k.1 ≠ 0) :
    Calls Try.prog 199 #[.agg #[.int .i64 (d : Int), .int .i64 (n : Int), .slice A l.length c], .agg #[.int .i64 (d : Int), .int .i64 (n : Int), .slice A2 l2.length cc], .agg #[.int .i64 k.1, .int .i64 k.2]] w (RetQ w (resQ d n (addkS l l2 k))) := by
  have hd9 : d ≤ 9 := by omega
  have HR := Aside0.mk hr
  have HR2 := Aside0.mk hr2
  have HX := Aside0.mk hx
  have hll := (bnd_iff.1 (isTs_bnd hd hn hx)).1
  have hll2 := (bnd_iff.1 (isTs_bnd hd hn hy)).1
  have HKS := Aside0.mk (fr_small hk)
  have HSM := Aside0.mk (fun j (h : j < l2.length) => (by rw [getD_lt l2 zT j h]; exact isTs_small hy _ (List.getElem_mem h) : small (l2.getD j zT).2))
  have HA := Aside0.mk (show addkS l l2 k = (l2.foldlM (scF k) []).bind fun r => sumS l r by unfold addkS; rw [sc_fold h0])
  have HT := Aside0.mk (fun z (h : l2.foldlM (scF k) [] = some z) => scale_ts (d := d) (n := n) hd9 hy hk (by rw [sc_fold h0]; exact h))
  have HS := Aside0.mk (Sep.refl w)
  clear hr hr2 hx hy hk h0
  go_enter Try.func199, Try.ntmps199
  go_wp2_with (first | ((with_reducible refine gate_dst (N := 3) rfl ?_); refine bxL 32 #[.int .i64 (d : Int), .int .i64 (n : Int), .slice A l.length c] HS ?_; clear HS; intro g_p w1 hg_p HS) | ((with_reducible refine gate_dst (N := 4) rfl ?_); refine bxL 32 #[.int .i64 (d : Int), .int .i64 (n : Int), .slice A2 l2.length cc] HS ?_; clear HS; intro g_a w1 hg_a HS) | ((with_reducible refine gate_dst (N := 5) rfl ?_); refine bxL 24 #[.int .i64 k.1, .int .i64 k.2] HS ?_; clear HS; intro g_kk w1 hg_kk HS) | ((with_reducible refine gate_dst (N := 6) rfl ?_); refine bxL 32 #[(.int .i64 0), (.int .i64 0), (.slice none 0 0)] HS ?_; clear HS; intro g_r w1 hg_r HS; have f1_ := HS.out.c 3 0 (v := .int .i64 (d : Int)) rfl rfl; have f2_ := HS.out.c 3 1 (v := .int .i64 (n : Int)) rfl rfl; have f3_ := HS.out.c 3 2 (v := .slice A l.length c) rfl rfl) | (go_at_call 117; refine (specEmpty d n A l.length c _).mono ?_; rintro e_ w1 ⟨B, b, rfl, hs⟩; replace HS := sN1 HS hs; clear hs f1_ f2_ f3_) | ((with_reducible refine gate_dst (N := 8) rfl ?_); refine bxL 32 #[(.int .i64 0), (.int .i64 0), (.slice none 0 0)] HS ?_; clear HS; intro g_q w1 hg_q HS) | ((with_reducible refine gate_store (t := 32) (p := 8) rfl ?_); refine stL HS 0 0 #[.int .i64 (d : Int), .int .i64 (n : Int), .slice B ([] : Ts).length b] rfl rfl rfl rfl rfl ?_; clear HS; intro w1 HS; have f1_ := HS.out.c 0 2 (v := .slice B ([] : Ts).length b) rfl rfl; have f2_ := HS.out.c 5 2 (v := .slice A l.length c) rfl rfl) | ((with_reducible refine gate_builtin (b := .append) (xs := #[.tmp 19, .tmp 21]) rfl ?_); at_builtin; refine wpList_stp (fun K hK => ?_); refine stp_rows KT rfl (fun _ _ _ _ _ h => h) (by rfl) HS 1 (xs := []) rfl (.tmp 19) (.tmp 21) 30 (.agg #[(.string ⟨#[]⟩), (.int .i64 0), (.int .i64 0)]) 32 rfl Try.underlying30 infoTerm (by kernel_rfl) l rfl rfl (HS.out.oldC HR.out) (by show (0 + l.length) * 32 ≤ _; omega) ?_; clear HS f1_ f2_; intro A_y0 c_y0 y0 w1 Ny0 HS; simp only [List.set_cons_zero, List.set_cons_succ] at HS; refine hK _ _ ?_; clear hK K) | ((with_reducible refine gate_store (t := 30) (p := 23) rfl ?_); refine stL HS 0 2 #[.int .i64 (d : Int), .int .i64 (n : Int), (.slice A_y0 y0.length c_y0)] rfl rfl rfl rfl rfl ?_; clear HS; intro w1 HS) | ((with_reducible refine gate_dst (N := 24) rfl ?_); refine wpList_stp (fun K hK => ?_); refine stp_lit (KT) rfl 77 (by rfl) HS (xs := ([] : Ts)) (inner := []) (by first | (go_simp; done) | (go_simp; rfl)) (fun W base ok => Reps.none _ _) (by simp) ?_; clear HS; intro A_s c_s w1 HS; refine hK _ _ ?_; clear hK K))
  go_loopw [9, 10] (fun x v w' => ∃ (i : Nat) (C : Option Addr) (cs : Nat) (sc : Ts), i ≤ l2.length ∧ v = .int .i64 (i : Int) ∧ x = .slice C sc.length cs ∧ Aside0 ((l2.take i).foldlM (scF k) [] = some sc) ∧ Aside0 (Mod w w' No [rowT C cs sc, bx g_q 32 #[.int .i64 (d : Int), .int .i64 (n : Int), (.slice A_y0 y0.length c_y0)], rw' (KT) rfl 77 (.slice A_y0 (y0).length c_y0) (y0), bx g_r 32 #[(.int .i64 0), (.int .i64 0), (.slice none 0 0)], bx g_kk 24 #[.int .i64 k.1, .int .i64 k.2], bx g_a 32 #[.int .i64 (d : Int), .int .i64 (n : Int), .slice A2 l2.length cc], bx g_p 32 #[.int .i64 (d : Int), .int .i64 (n : Int), .slice A l.length c]])) (fun _ v _ => l2.length - (intOf v).toNat)
  case atStart => exact ⟨0, A_s, c_s, [], by omega, rfl, rfl, ⟨rfl⟩, HS⟩
  case round =>
    clear HS
    obtain ⟨i, C, cs, sc, hi, rfl, rfl, HZ, HS⟩ := hrel
    by_cases hlt : i < l2.length
    · have hzl : sc.length ≤ 1048576 := by have := scF_run HZ.out; rw [List.length_take] at this; simp at this; omega
      have HN := Aside0.mk (foldM_next (scF k) l2 [] hlt)
      have hsm := HSM.out i hlt
      have hgt := Aside0.mk (getD_lt l2 zT i hlt)
      obtain ⟨ad_A2, ea_, h0_, h1_, h2_⟩ := tm_at HR2.out i (hlt)
      cases ea_
      obtain ⟨t, ht_⟩ : ∃ t_, t_ = l2.getD i zT := ⟨_, rfl⟩
      rw [← ht_] at h0_ h1_ h2_
      have Et := Aside0.mk ht_; have H0t := Aside0.mk h0_; have H1t := Aside0.mk h1_; have H2t := Aside0.mk h2_
      clear ht_ h0_ h1_ h2_
      rw [← Et.out] at hsm hgt
      rw [← hgt.out, HZ.out] at HN
      obtain ⟨m, hm⟩ : ∃ m, m = mul t.2 k := ⟨_, rfl⟩
      have HP := Aside0.mk (fun W => (hm.trans (mul_swap _ _)) ▸ specTimes k.1 k.2 t.2.1 t.2.2 W HKS.out hsm)
      have HM := Aside0.mk hm
      clear hm hgt
      cases m with
      | none =>
        have f1_ := HS.out.c 5 2 (v := .slice (some ad_A2) l2.length cc) rfl rfl
        go_wp2
        clear f1_
        replace HS := sD HS
        apply region_told ((fun (A0_ : Nat → Act) (a' : Act) (w' : World) => ∃ (g_u : Nat), a' = A0_ g_u ∧ Aside0 (Mod w w' No [bx g_u 24 #[.int .i64 0, .int .i64 0], rowT C cs sc, bx g_q 32 #[.int .i64 (d : Int), .int .i64 (n : Int), (.slice A_y0 y0.length c_y0)], rw' (KT) rfl 77 (.slice A_y0 (y0).length c_y0) (y0), bx g_r 32 #[(.int .i64 0), (.int .i64 0), (.slice none 0 0)], bx g_kk 24 #[.int .i64 k.1, .int .i64 k.2], bx g_a 32 #[.int .i64 (d : Int), .int .i64 (n : Int), .slice (some ad_A2) l2.length cc], bx g_p 32 #[.int .i64 (d : Int), .int .i64 (n : Int), .slice A l.length c]])) _)
        case h1 =>
          refine ps (.p 1 (.p 3 (.t 0 (.t 2 (.p 4 (.p 5 (.t 6 (.two 7 11 (.p 8 (.p 9 (.p 10 (.e 11 (.d 12 (.p 13 .done)))))) (.e 7 (.p 8 (.p 9 (.p 10 (.d 12 (.p 13 .done)))))))))))))) (fun w' => w'.cell? ⟨g_kk, 0, none⟩ = some (.int .i64 k.1) ∧ w'.cell? ⟨g_kk, 1, none⟩ = some (.int .i64 k.2) ∧ w'.cell? ⟨g_a, 2, none⟩ = some (.slice (some ad_A2) l2.length cc) ∧ w'.cell? ⟨(ad_A2.add (i * 3)).block, (ad_A2.add (i * 3)).off + 1, none⟩ = some (.int .i64 t.2.1) ∧ w'.cell? ⟨(ad_A2.add (i * 3)).block, (ad_A2.add (i * 3)).off + 1 + 1, none⟩ = some (.int .i64 t.2.2)) [12] ⟨HS.out.c 4 0 (v := .int .i64 k.1) rfl rfl, HS.out.c 4 1 (v := .int .i64 k.2) rfl rfl, HS.out.c 5 2 (v := .slice (some ad_A2) l2.length cc) rfl rfl, HS.out.old H1t.out, c2 (HS.out.old H2t.out)⟩ (fun hHeld => ?_)
          repeat (first | ((with_reducible refine gate_p ?_); refine rp rfl rfl ?_) | ((with_reducible refine gate_t ?_); refine rt rfl rfl hHeld ?_))
          refine run_two ?_ ?_
          · skip
            refine run_e rfl (fun K hK => ?_)
            refine gc Try.func192 (HP.out _) rfl rfl ?_
            rintro e_ w1 ⟨rfl, hb⟩
            refine ⟨_, rfl, ?_⟩
            replace HS := sB HS hb
            refine ge hK ⟨HS.out.c 4 0 (v := .int .i64 k.1) rfl rfl, HS.out.c 4 1 (v := .int .i64 k.2) rfl rfl, HS.out.c 5 2 (v := .slice (some ad_A2) l2.length cc) rfl rfl, HS.out.old H1t.out, c2 (HS.out.old H2t.out)⟩ (fun hHeld => ?_)
            repeat (first | ((with_reducible refine gate_p ?_); refine rp rfl rfl ?_) | ((with_reducible refine gate_t ?_); refine rt rfl rfl hHeld ?_))
            refine run_e rfl (fun K hK => ?_)
            refine bx1 24 #[(.int .i64 0), (.int .i64 0)] HS ?_
            intro g_u w1 hg_u HS
            refine ge hK ⟨HS.out.c 5 0 (v := .int .i64 k.1) rfl rfl, HS.out.c 5 1 (v := .int .i64 k.2) rfl rfl, HS.out.c 6 2 (v := .slice (some ad_A2) l2.length cc) rfl rfl, HS.out.old H1t.out, c2 (HS.out.old H2t.out)⟩ (fun hHeld => ?_)
            refine run_d rfl (fun K hK => ?_)
            refine st1 HS 0 0 #[.int .i64 0, .int .i64 0] rfl rfl rfl rfl rfl ?_
            intro w1 HS
            refine goD hK rfl ?_
            repeat (first | ((with_reducible refine gate_p ?_); refine rp rfl rfl ?_) | ((with_reducible refine gate_t ?_); refine rt rfl rfl hHeld ?_))
            refine run_done ?_
            exact ⟨g_u, rfl, HS⟩
          · skip
            refine run_e rfl (fun K hK => ?_)
            refine bx1 24 #[(.int .i64 0), (.int .i64 0)] HS ?_
            intro g_u w1 hg_u HS
            refine ge hK ⟨HS.out.c 5 0 (v := .int .i64 k.1) rfl rfl, HS.out.c 5 1 (v := .int .i64 k.2) rfl rfl, HS.out.c 6 2 (v := .slice (some ad_A2) l2.length cc) rfl rfl, HS.out.old H1t.out, c2 (HS.out.old H2t.out)⟩ (fun hHeld => ?_)
            refine run_e rfl (fun K hK => ?_)
            refine gc Try.func192 (HP.out _) rfl rfl ?_
            rintro e_ w1 ⟨rfl, hb⟩
            refine ⟨_, rfl, ?_⟩
            replace HS := sB HS hb
            refine ge hK ⟨HS.out.c 5 0 (v := .int .i64 k.1) rfl rfl, HS.out.c 5 1 (v := .int .i64 k.2) rfl rfl, HS.out.c 6 2 (v := .slice (some ad_A2) l2.length cc) rfl rfl, HS.out.old H1t.out, c2 (HS.out.old H2t.out)⟩ (fun hHeld => ?_)
            repeat (first | ((with_reducible refine gate_p ?_); refine rp rfl rfl ?_) | ((with_reducible refine gate_t ?_); refine rt rfl rfl hHeld ?_))
            refine run_d rfl (fun K hK => ?_)
            refine st1 HS 0 0 #[.int .i64 0, .int .i64 0] rfl rfl rfl rfl rfl ?_
            intro w1 HS
            refine goD hK rfl ?_
            repeat (first | ((with_reducible refine gate_p ?_); refine rp rfl rfl ?_) | ((with_reducible refine gate_t ?_); refine rt rfl rfl hHeld ?_))
            refine run_done ?_
            have n_ := HS.out.sel [0, 1, 2, 3, 4, 5, 6, 7] (by decide)
            simp only [List.filterMap_cons, List.filterMap_nil, List.getElem?_cons_zero, List.getElem?_cons_succ] at n_
            exact ⟨g_u, rfl, ⟨n_⟩⟩
        clear HS
        rintro a_ w1 ⟨g_u, rfl, HS⟩
        go_wp2_with (first | ((with_reducible refine gate_store (t := 32) (p := 6) rfl ?_); refine stL HS 4 0 #[(.int .i64 0), (.int .i64 0), (.slice none 0 0)] rfl rfl rfl rfl rfl ?_; clear HS; intro w1 HS))
        refine bodyPost_ret (results_cell_tmp_row rfl _ _ g_r 32 #[(.int .i64 0), (.int .i64 0), (.slice none 0 0)] (0, 0) _ rfl (HS.out.at (i := 4) rfl) Try.underlying32 rfl (by kernel_rfl)) rfl ?_
        have e_ : addkS l l2 k = none := by rw [HA.out, foldM_none _ _ _ (i + 1) (by rw [HN.out]; show scF k sc t = none; unfold scF; rw [← HM.out]; rfl)]; rfl
        rw [e_]
        exact ⟨none, 0, rfl, nilS (HS.out.sel [] (by decide))⟩
      | some v =>
        have f1_ := HS.out.c 5 2 (v := .slice (some ad_A2) l2.length cc) rfl rfl
        go_wp2
        clear f1_
        replace HS := sD HS
        apply region_told ((fun (A0_ : Nat → Act) (a' : Act) (w' : World) => ∃ (g_u : Nat), a' = A0_ g_u ∧ Aside0 (Mod w w' No [bx g_u 24 #[.int .i64 v.1, .int .i64 v.2], rw' (KT) rfl 77 (.slice C (sc).length cs) (sc), bx g_q 32 #[.int .i64 (d : Int), .int .i64 (n : Int), (.slice A_y0 y0.length c_y0)], rw' (KT) rfl 77 (.slice A_y0 (y0).length c_y0) (y0), bx g_r 32 #[(.int .i64 0), (.int .i64 0), (.slice none 0 0)], bx g_kk 24 #[.int .i64 k.1, .int .i64 k.2], bx g_a 32 #[.int .i64 (d : Int), .int .i64 (n : Int), .slice (some ad_A2) l2.length cc], bx g_p 32 #[.int .i64 (d : Int), .int .i64 (n : Int), .slice A l.length c]])) _)
        case h1 =>
          refine ps (.p 1 (.p 3 (.t 0 (.t 2 (.p 4 (.p 5 (.t 6 (.two 7 11 (.p 8 (.p 9 (.p 10 (.e 11 (.d 12 (.p 13 .done)))))) (.e 7 (.p 8 (.p 9 (.p 10 (.d 12 (.p 13 .done)))))))))))))) (fun w' => w'.cell? ⟨g_kk, 0, none⟩ = some (.int .i64 k.1) ∧ w'.cell? ⟨g_kk, 1, none⟩ = some (.int .i64 k.2) ∧ w'.cell? ⟨g_a, 2, none⟩ = some (.slice (some ad_A2) l2.length cc) ∧ w'.cell? ⟨(ad_A2.add (i * 3)).block, (ad_A2.add (i * 3)).off + 1, none⟩ = some (.int .i64 t.2.1) ∧ w'.cell? ⟨(ad_A2.add (i * 3)).block, (ad_A2.add (i * 3)).off + 1 + 1, none⟩ = some (.int .i64 t.2.2)) [12] ⟨HS.out.c 4 0 (v := .int .i64 k.1) rfl rfl, HS.out.c 4 1 (v := .int .i64 k.2) rfl rfl, HS.out.c 5 2 (v := .slice (some ad_A2) l2.length cc) rfl rfl, HS.out.old H1t.out, c2 (HS.out.old H2t.out)⟩ (fun hHeld => ?_)
          repeat (first | ((with_reducible refine gate_p ?_); refine rp rfl rfl ?_) | ((with_reducible refine gate_t ?_); refine rt rfl rfl hHeld ?_))
          refine run_two ?_ ?_
          · skip
            refine run_e rfl (fun K hK => ?_)
            refine gc Try.func192 (HP.out _) rfl rfl ?_
            rintro e_ w1 ⟨rfl, hb⟩
            refine ⟨_, rfl, ?_⟩
            replace HS := sB HS hb
            refine ge hK ⟨HS.out.c 4 0 (v := .int .i64 k.1) rfl rfl, HS.out.c 4 1 (v := .int .i64 k.2) rfl rfl, HS.out.c 5 2 (v := .slice (some ad_A2) l2.length cc) rfl rfl, HS.out.old H1t.out, c2 (HS.out.old H2t.out)⟩ (fun hHeld => ?_)
            repeat (first | ((with_reducible refine gate_p ?_); refine rp rfl rfl ?_) | ((with_reducible refine gate_t ?_); refine rt rfl rfl hHeld ?_))
            refine run_e rfl (fun K hK => ?_)
            refine bx1 24 #[(.int .i64 0), (.int .i64 0)] HS ?_
            intro g_u w1 hg_u HS
            refine ge hK ⟨HS.out.c 5 0 (v := .int .i64 k.1) rfl rfl, HS.out.c 5 1 (v := .int .i64 k.2) rfl rfl, HS.out.c 6 2 (v := .slice (some ad_A2) l2.length cc) rfl rfl, HS.out.old H1t.out, c2 (HS.out.old H2t.out)⟩ (fun hHeld => ?_)
            refine run_d rfl (fun K hK => ?_)
            refine st1 HS 0 0 #[.int .i64 v.1, .int .i64 v.2] rfl rfl rfl rfl rfl ?_
            intro w1 HS
            refine goD hK rfl ?_
            repeat (first | ((with_reducible refine gate_p ?_); refine rp rfl rfl ?_) | ((with_reducible refine gate_t ?_); refine rt rfl rfl hHeld ?_))
            refine run_done ?_
            exact ⟨g_u, rfl, HS⟩
          · skip
            refine run_e rfl (fun K hK => ?_)
            refine bx1 24 #[(.int .i64 0), (.int .i64 0)] HS ?_
            intro g_u w1 hg_u HS
            refine ge hK ⟨HS.out.c 5 0 (v := .int .i64 k.1) rfl rfl, HS.out.c 5 1 (v := .int .i64 k.2) rfl rfl, HS.out.c 6 2 (v := .slice (some ad_A2) l2.length cc) rfl rfl, HS.out.old H1t.out, c2 (HS.out.old H2t.out)⟩ (fun hHeld => ?_)
            refine run_e rfl (fun K hK => ?_)
            refine gc Try.func192 (HP.out _) rfl rfl ?_
            rintro e_ w1 ⟨rfl, hb⟩
            refine ⟨_, rfl, ?_⟩
            replace HS := sB HS hb
            refine ge hK ⟨HS.out.c 5 0 (v := .int .i64 k.1) rfl rfl, HS.out.c 5 1 (v := .int .i64 k.2) rfl rfl, HS.out.c 6 2 (v := .slice (some ad_A2) l2.length cc) rfl rfl, HS.out.old H1t.out, c2 (HS.out.old H2t.out)⟩ (fun hHeld => ?_)
            repeat (first | ((with_reducible refine gate_p ?_); refine rp rfl rfl ?_) | ((with_reducible refine gate_t ?_); refine rt rfl rfl hHeld ?_))
            refine run_d rfl (fun K hK => ?_)
            refine st1 HS 0 0 #[.int .i64 v.1, .int .i64 v.2] rfl rfl rfl rfl rfl ?_
            intro w1 HS
            refine goD hK rfl ?_
            repeat (first | ((with_reducible refine gate_p ?_); refine rp rfl rfl ?_) | ((with_reducible refine gate_t ?_); refine rt rfl rfl hHeld ?_))
            refine run_done ?_
            have n_ := HS.out.sel [0, 1, 2, 3, 4, 5, 6, 7] (by decide)
            simp only [List.filterMap_cons, List.filterMap_nil, List.getElem?_cons_zero, List.getElem?_cons_succ] at n_
            exact ⟨g_u, rfl, ⟨n_⟩⟩
        clear HS
        rintro a_ w1 ⟨g_u, rfl, HS⟩
        go_wp2
        replace HS := sD HS
        refine ps (.p 0 (.p 1 (.p 3 (.t 2 (.p 4 (.p 5 (.t 6 (.t 7 (.p 8 (.d 9 (.d 10 (.p 11 .done)))))))))))) (fun w' => w'.cell? ⟨g_a, 2, none⟩ = some (.slice (some ad_A2) l2.length cc) ∧ w'.cell? (ad_A2.add (i * 3)) = some (.string t.1) ∧ w'.cell? ⟨g_u, 0, none⟩ = some (.int .i64 v.1) ∧ w'.cell? ⟨g_u, 1, none⟩ = some (.int .i64 v.2)) [9, 10] ⟨HS.out.c 6 2 (v := .slice (some ad_A2) l2.length cc) rfl rfl, HS.out.old H0t.out, HS.out.c 0 0 (v := .int .i64 v.1) rfl rfl, HS.out.c 0 1 (v := .int .i64 v.2) rfl rfl⟩ (fun hHeld => ?_)
        repeat (first | ((with_reducible refine gate_p ?_); refine rp rfl rfl ?_) | ((with_reducible refine gate_t ?_); refine rt rfl rfl hHeld ?_))
        refine run_d rfl (fun K hK => ?_)
        refine stp_lit (KT) rfl 77 (by rfl) HS (xs := [((t.1, v) : Tm)]) (inner := [.string t.1, .int .i64 v.1, .int .i64 v.2]) (by first | (go_simp; done) | (go_simp; rfl)) (fun W base ok => Reps.snoc (Reps.none _ _) (KT_M (t.1, v) W base ok) rfl) (by simp) ?_
        clear HS
        intro A_z c_z w1 HS
        refine gd hK ?_
        clear hK K
        refine run_d rfl (fun K hK => ?_)
        refine stp_rows KT rfl (fun _ _ _ _ _ h => h) (by rfl) HS 2 rfl (.tmp 46) (.tmp 55) 30 (.agg #[(.string ⟨#[]⟩), (.int .i64 0), (.int .i64 0)]) 32 rfl Try.underlying30 infoTerm (by kernel_rfl) [((t.1, v) : Tm)] rfl rfl (HS.out.reads 0 rfl) (by show (sc.length + 1) * 32 ≤ _; omega) ?_
        clear HS
        intro A_y' c_y' y' w1 Ny' HS
        simp only [List.set_cons_zero, List.set_cons_succ] at HS
        refine gd hK ?_
        clear hK K
        repeat (first | ((with_reducible refine gate_p ?_); refine rp rfl rfl ?_) | ((with_reducible refine gate_t ?_); refine rt rfl rfl hHeld ?_))
        refine run_done ?_
        clear hHeld
        go_wp2
        replace HS : Aside0 (Mod _ _ _ [_, _, _, _, _, _, _]) := sX HS [2, 3, 4, 5, 6, 7, 8]
        go_roundw
        case rel => exact ⟨i + 1, A_y', c_y', y', by omega, by go_num, rfl, ⟨by rw [HN.out, Ny'.out]; show scF k sc t = _; unfold scF; rw [← HM.out]; rfl⟩, HS⟩
        case measure => simp [intOf]; omega
    · obtain rfl : i = l2.length := by omega
      have HZ2 := Aside0.mk (show l2.foldlM (scF k) [] = some sc by have := HZ.out; rwa [List.take_length] at this)
      have HTS := Aside0.mk (HT.out sc HZ2.out)
      have HA2 := Aside0.mk (show addkS l l2 k = sumS l sc by rw [HA.out, HZ2.out]; rfl)
      have hll3 := (bnd_iff.1 (isTs_bnd hd hn HTS.out)).1
      clear HA HZ
      have f1_ := HS.out.c 5 2 (v := .slice A2 l2.length cc) rfl rfl
      go_wp2
      go_loopw [13] (fun v w' => ∃ (j : Nat) (B : Option Addr) (b : Nat) (z : Ts), j ≤ sc.length ∧ v = .int .i64 (j : Int) ∧ Aside0 ((sc.take j).foldlM putF l = some z) ∧ Aside0 (Mod w w' No [rowT C cs sc, bx g_q 32 #[.int .i64 (d : Int), .int .i64 (n : Int), .slice B z.length b], rowT B b z, bx g_r 32 #[(.int .i64 0), (.int .i64 0), (.slice none 0 0)], bx g_kk 24 #[.int .i64 k.1, .int .i64 k.2], bx g_a 32 #[.int .i64 (d : Int), .int .i64 (n : Int), .slice A2 l2.length cc], bx g_p 32 #[.int .i64 (d : Int), .int .i64 (n : Int), .slice A l.length c]])) (fun v _ => sc.length - (intOf v).toNat)
      case atStart => exact ⟨0, A_y0, c_y0, y0, by omega, rfl, ⟨by rw [Ny0.out]; rfl⟩, HS⟩
      case round =>
        clear HS
        obtain ⟨j, B, b, z, hj, rfl, HZ, HS⟩ := hrel
        have HZT := Aside0.mk (sum_take HX.out HTS.out j HZ.out)
        by_cases hjl : j < sc.length
        · have HN := Aside0.mk (foldM_next putF sc l hjl)
          obtain ⟨t, ht⟩ : ∃ t, t = sc[j] := ⟨_, rfl⟩
          have hjt := (List.getElem?_eq_getElem hjl).trans (congrArg some ht.symm)
          have HJ := Aside0.mk hjt
          have htm : isTm d n t = true := (isTs_iff.1 HTS.out).1 _ (List.mem_of_getElem? hjt)
          obtain ⟨ad, ea, _⟩ := tm_at (HS.out.reads 0 rfl) j hjl
          cases ea
          rw [← ht, HZ.out] at HN
          obtain ⟨z1, z2, z3, z4⟩ := isTm_fr htm
          have HSMT := Aside0.mk (fr_small z1)
          have hs5 : t.1.size ≤ 1048576 := by omega
          clear htm z1 z2 z3 ht hjt
          obtain ⟨g, hg⟩ : ∃ g, g = put z t.1 t.2 := ⟨_, rfl⟩
          have HP := Aside0.mk (fun W k1 k2 => hg ▸ specPut B b z t.1 t.2.1 t.2.2 W k1 k2 (isTs_bnd hd hn HZT.out) (isTs_small HZT.out) hs5 HSMT.out)
          have HG := Aside0.mk hg
          clear hg
          cases g with
          | none =>
            go_wp2
            replace HS := sD HS
            refine ps (.p 0 (.p 2 (.p 3 (.p 4 (.p 5 (.p 7 (.p 8 (.p 9 (.p 10 (.t 1 (.t 6 (.t 11 (.d 12 (.p 13 (.p 14 (.p 15 (.p 16 (.p 17 .done)))))))))))))))))) (fun w' => w'.cell? ⟨g_q, 2, none⟩ = some (.slice B z.length b) ∧ w'.cell? (ad.add (j * 3)) = some (.string t.1) ∧ w'.cell? ⟨(ad.add (j * 3)).block, (ad.add (j * 3)).off + 1, none⟩ = some (.int .i64 t.2.1) ∧ w'.cell? ⟨(ad.add (j * 3)).block, (ad.add (j * 3)).off + 1 + 1, none⟩ = some (.int .i64 t.2.2)) [12] ⟨HS.out.c 1 2 (v := .slice B z.length b) rfl rfl, (HS.out.tm 0 rfl HJ.out).1, (HS.out.tm 0 rfl HJ.out).2.1, c2 ((HS.out.tm 0 rfl HJ.out).2.2)⟩ (fun hHeld => ?_)
            repeat (first | ((with_reducible refine gate_p ?_); refine rp rfl rfl ?_) | ((with_reducible refine gate_t ?_); refine rt rfl rfl hHeld ?_))
            refine run_d rfl (fun K hK => ?_)
            refine gc Try.func136 (HP.out _ (HS.out.reads 2 rfl) (HS.out.cap 2 rfl)) rfl rfl ?_
            rintro e_ w1 ⟨B2, b2, rfl, hs⟩
            refine ⟨_, rfl, ?_⟩
            replace HS := sN1 HS hs
            clear hs
            refine gd hK ?_
            clear hK K
            repeat (first | ((with_reducible refine gate_p ?_); refine rp rfl rfl ?_) | ((with_reducible refine gate_t ?_); refine rt rfl rfl hHeld ?_))
            refine run_done ?_
            clear hHeld
            go_wp2_with (first | ((with_reducible refine gate_store (t := 32) (p := 6) rfl ?_); refine stL HS 4 0 #[(.int .i64 0), (.int .i64 0), (.slice none 0 0)] rfl rfl rfl rfl rfl ?_; clear HS; intro w1 HS))
            refine bodyPost_ret (results_cell_tmp_row rfl _ _ g_r 32 #[(.int .i64 0), (.int .i64 0), (.slice none 0 0)] (0, 0) _ rfl (HS.out.at (i := 4) rfl) Try.underlying32 rfl (by kernel_rfl)) rfl ?_
            have e_ : addkS l l2 k = none := by rw [HA2.out]; exact foldM_none _ _ _ (j + 1) (by rw [HN.out]; show putF z t = none; unfold putF; rw [← HG.out])
            rw [e_]
            exact ⟨none, 0, rfl, nilS (HS.out.sel [] (by decide))⟩
          | some v =>
            go_wp2
            replace HS := sD HS
            refine ps (.p 0 (.p 2 (.p 3 (.p 4 (.p 5 (.p 7 (.p 8 (.p 9 (.p 10 (.t 1 (.t 6 (.t 11 (.d 12 (.p 13 (.p 14 (.p 15 (.p 16 (.p 17 .done)))))))))))))))))) (fun w' => w'.cell? ⟨g_q, 2, none⟩ = some (.slice B z.length b) ∧ w'.cell? (ad.add (j * 3)) = some (.string t.1) ∧ w'.cell? ⟨(ad.add (j * 3)).block, (ad.add (j * 3)).off + 1, none⟩ = some (.int .i64 t.2.1) ∧ w'.cell? ⟨(ad.add (j * 3)).block, (ad.add (j * 3)).off + 1 + 1, none⟩ = some (.int .i64 t.2.2)) [12] ⟨HS.out.c 1 2 (v := .slice B z.length b) rfl rfl, (HS.out.tm 0 rfl HJ.out).1, (HS.out.tm 0 rfl HJ.out).2.1, c2 ((HS.out.tm 0 rfl HJ.out).2.2)⟩ (fun hHeld => ?_)
            repeat (first | ((with_reducible refine gate_p ?_); refine rp rfl rfl ?_) | ((with_reducible refine gate_t ?_); refine rt rfl rfl hHeld ?_))
            refine run_d rfl (fun K hK => ?_)
            refine gc Try.func136 (HP.out _ (HS.out.reads 2 rfl) (HS.out.cap 2 rfl)) rfl rfl ?_
            rintro e_ w1 ⟨B2, b2, rfl, hs⟩
            refine ⟨_, rfl, ?_⟩
            replace HS := sN1 HS hs
            clear hs
            refine gd hK ?_
            clear hK K
            repeat (first | ((with_reducible refine gate_p ?_); refine rp rfl rfl ?_) | ((with_reducible refine gate_t ?_); refine rt rfl rfl hHeld ?_))
            refine run_done ?_
            clear hHeld
            go_wp2_with (first | ((with_reducible refine gate_store (t := 30) (p := 83) rfl ?_); refine stL HS 2 2 #[.int .i64 (d : Int), .int .i64 (n : Int), (.slice B2 v.length b2)] rfl rfl rfl rfl rfl ?_; clear HS; intro w1 HS))
            go_roundw
            case rel => exact ⟨j + 1, B2, b2, v, by omega, by go_num, ⟨by rw [HN.out]; show putF z t = _; unfold putF; rw [← HG.out]⟩, sX HS [1, 2, 0, 4, 5, 6, 7]⟩
            case measure => simp [intOf]; omega
        · obtain rfl : j = sc.length := by omega
          have f1_ := HS.out.c 1 0 (v := .int .i64 (d : Int)) rfl rfl
          have f2_ := HS.out.c 1 1 (v := .int .i64 (n : Int)) rfl rfl
          have f3_ := HS.out.c 1 2 (v := .slice B z.length b) rfl rfl
          go_wp2_with (first | ((with_reducible refine gate_store (t := 32) (p := 6) rfl ?_); refine stL HS 3 0 #[.int .i64 (d : Int), .int .i64 (n : Int), .slice B z.length b] rfl rfl rfl rfl rfl ?_; clear HS f1_ f2_ f3_; intro w1 HS))
          refine bodyPost_ret (results_cell_tmp_row rfl _ _ g_r 32 #[.int .i64 (d : Int), .int .i64 (n : Int), .slice B z.length b] (0, 0) _ rfl (HS.out.at (i := 3) rfl) Try.underlying32 rfl (by kernel_rfl)) rfl ?_
          have e_ : addkS l l2 k = some z := by rw [HA2.out]; have := HZ.out; rwa [List.take_length] at this
          rw [e_]
          exact ⟨B, b, rfl, HS.out.sel [2] (by decide)⟩
end Go.Proofs.Ytcklblagklojhaa.H

