/- Plain facts and contracts of functions that the law's walk uses. Conditions: those that stand in each statement. -/
import Derived.Deep.Cut
import Derived.Test.YtibjkjhpfmmjoaaRvG8
import Derived.Test.YtibjkjhpfmmjoaaRvG9
namespace Go.Proofs.Ytibjkjhpfmmjoaa.H
open Go.RowKit Go.Proofs.YtibjkjhpfmmjoaaW.PrintWords Go.Proofs.YtibjkjhpfmmjoaaW.PrintLast Go.Proofs.YtibjkjhpfmmjoaaW.PrintMore Go.Proofs.Ytibjkjhpfmmjoaa.M
set_option linter.unusedVariables false
set_option linter.unusedSimpArgs false
set_option maxRecDepth 100000
set_option maxHeartbeats 64000000 in
theorem lawFnReversals (A : Option Addr) (c : Nat) (xs : List Int) (w : World) (hr : (Kd.int .u8).C w A xs.length xs) (hxb : ∀ x ∈ xs, 0 ≤ x ∧ x < 256) :
    Calls Try.prog 3 #[.slice A xs.length c] w fun e w' => e = .returned (.bool true) ∧ Below w.heap.size w w' := by
  have HS := Aside0.mk (Sep.refl w)
  have HG := Aside0.mk (fun X => lawBig A c xs.length X)
  by_cases hbig : 4096 < xs.length
  · rw [decide_eq_true hbig] at HG
    clear hr hxb
    go_enter Try.func3, Try.ntmps3
    go_wp2_with (first | (go_at_call 6; refine (HG.out _).mono ?_; rintro e_ w1 ⟨rfl, hb⟩; replace HS := sB HS hb; clear hb))
    go_ret
    exact ⟨rfl, HS.out.below⟩
  · rw [decide_eq_false hbig] at HG
    have HX := Aside0.mk (Bytes.mk hr hxb (by omega))
    clear hr hxb hbig
    go_enter Try.func3, Try.ntmps3
    go_upto_region 4 with (first | (go_at_call 6; refine (HG.out _).mono ?_; rintro e_ w1 ⟨rfl, hb⟩; replace HS := sB HS hb; clear hb) | (go_at_call 7; refine (specDrawReversalOf A c xs _ (HX.out.old HS.out)).mono ?_; rintro e_ w1 ⟨dx, nx, Bx, mx, lx, rfl, hbx, hokx, hs⟩; replace HS := sN1 HS hs; clear hs) | ((with_reducible refine gate_dst (N := 3) rfl ?_); refine bxL 26 #[(.int .i64 0), (.int .i64 0), (.slice none 0 0)] HS ?_; clear HS; intro g_x w1 hg_x HS) | ((with_reducible refine gate_store (t := 26) (p := 3) rfl ?_); refine stL HS 0 0 #[.int .i64 dx, .int .i64 nx, .slice Bx lx.length mx] rfl rfl rfl rfl rfl ?_; clear HS; intro w1 HS))
    have HBX := Aside0.mk hokx.1
    cases hx : isS dx nx lx with
    | false =>
      have HRX := Aside0.mk (revR_no (b := false) hx)
      have HAX := Aside0.mk (revR_no (b := true) hx)
      clear hx
      have f1_ := HS.out.c 0 0 (v := .int .i64 dx) rfl rfl
      have f2_ := HS.out.c 0 1 (v := .int .i64 nx) rfl rfl
      have f3_ := HS.out.c 0 2 (v := .slice Bx lx.length mx) rfl rfl
      have tk1_ : True := trivial
      go_upto_region 13 with (first | (go_at_call 8; refine (got (implReversalOf dx nx Bx mx lx _ (HS.out.reads 1 rfl) (HS.out.cap 1 rfl) HBX.out) HRX.out).mono ?_; rintro e_ w1 ⟨C1, e1, rfl, hs⟩; replace HS := sN1 HS hs; clear hs f1_ f2_ f3_) | ((with_reducible refine gate_dst (N := 4) rfl ?_); refine bxL 26 #[(.int .i64 0), (.int .i64 0), (.slice none 0 0)] HS ?_; clear HS; intro g_r1 w1 hg_r1 HS) | ((with_reducible refine gate_store (t := 26) (p := 4) rfl ?_); refine stL HS 0 0 #[.int .i64 0, .int .i64 0, .slice C1 ([] : Ts).length e1] rfl rfl rfl rfl rfl ?_; clear HS; intro w1 HS; have f1_ := HS.out.c 2 0 (v := .int .i64 dx) rfl rfl; have f2_ := HS.out.c 2 1 (v := .int .i64 nx) rfl rfl; have f3_ := HS.out.c 2 2 (v := .slice Bx lx.length mx) rfl rfl) | (go_at_call 9; refine (got (specReversalOf dx nx Bx mx lx _ (HS.out.reads 3 rfl) (HS.out.cap 3 rfl) HBX.out) HRX.out).mono ?_; rintro e_ w1 ⟨C2, e2, rfl, hs⟩; replace HS := sN1 HS hs; clear hs f1_ f2_ f3_) | ((with_reducible refine gate_dst (N := 6) rfl ?_); refine bxL 26 #[(.int .i64 0), (.int .i64 0), (.slice none 0 0)] HS ?_; clear HS; intro g_r2 w1 hg_r2 HS) | ((with_reducible refine gate_store (t := 26) (p := 6) rfl ?_); refine stL HS 0 0 #[.int .i64 0, .int .i64 0, .slice C2 ([] : Ts).length e2] rfl rfl rfl rfl rfl ?_; clear HS; intro w1 HS; have f1_ := HS.out.c 2 0 (v := .int .i64 0) rfl rfl; have f2_ := HS.out.c 2 1 (v := .int .i64 0) rfl rfl; have f3_ := HS.out.c 2 2 (v := .slice C1 ([] : Ts).length e1) rfl rfl; have f4_ := HS.out.c 0 0 (v := .int .i64 0) rfl rfl; have f5_ := HS.out.c 0 1 (v := .int .i64 0) rfl rfl; have f6_ := HS.out.c 0 2 (v := .slice C2 ([] : Ts).length e2) rfl rfl) | (go_at_call 10; clear tk1_; refine (lawSeries9 0 0 C1 C2 e1 e2 ([] : Ts) _ (HS.out.reads 3 rfl) (HS.out.reads 1 rfl) (by decide)).mono ?_; rintro e_ w1 ⟨rfl, hb⟩; replace HS := sB HS hb; clear hb f1_ f2_ f3_ f4_ f5_ f6_; have f1_ := HS.out.c 4 0 (v := .int .i64 dx) rfl rfl; have f2_ := HS.out.c 4 1 (v := .int .i64 nx) rfl rfl; have f3_ := HS.out.c 4 2 (v := .slice Bx lx.length mx) rfl rfl) | (go_at_call 11; refine (got (implAntipodeOf dx nx Bx mx lx _ (HS.out.reads 5 rfl) (HS.out.cap 5 rfl) HBX.out) HAX.out).mono ?_; rintro e_ w1 ⟨C3, e3, rfl, hs⟩; replace HS := sN1 HS hs; clear hs f1_ f2_ f3_) | ((with_reducible refine gate_dst (N := 8) rfl ?_); refine bxL 26 #[(.int .i64 0), (.int .i64 0), (.slice none 0 0)] HS ?_; clear HS; intro g_a1 w1 hg_a1 HS) | ((with_reducible refine gate_store (t := 26) (p := 8) rfl ?_); refine stL HS 0 0 #[.int .i64 0, .int .i64 0, .slice C3 ([] : Ts).length e3] rfl rfl rfl rfl rfl ?_; clear HS; intro w1 HS; have f1_ := HS.out.c 6 0 (v := .int .i64 dx) rfl rfl; have f2_ := HS.out.c 6 1 (v := .int .i64 nx) rfl rfl; have f3_ := HS.out.c 6 2 (v := .slice Bx lx.length mx) rfl rfl) | (go_at_call 12; refine (got (specAntipodeOf dx nx Bx mx lx _ (HS.out.reads 7 rfl) (HS.out.cap 7 rfl) HBX.out) HAX.out).mono ?_; rintro e_ w1 ⟨C4, e4, rfl, hs⟩; replace HS := sN1 HS hs; clear hs f1_ f2_ f3_) | ((with_reducible refine gate_dst (N := 10) rfl ?_); refine bxL 26 #[(.int .i64 0), (.int .i64 0), (.slice none 0 0)] HS ?_; clear HS; intro g_a2 w1 hg_a2 HS) | ((with_reducible refine gate_store (t := 26) (p := 10) rfl ?_); refine stL HS 0 0 #[.int .i64 0, .int .i64 0, .slice C4 ([] : Ts).length e4] rfl rfl rfl rfl rfl ?_; clear HS; intro w1 HS; have f1_ := HS.out.c 2 0 (v := .int .i64 0) rfl rfl; have f2_ := HS.out.c 2 1 (v := .int .i64 0) rfl rfl; have f3_ := HS.out.c 2 2 (v := .slice C3 ([] : Ts).length e3) rfl rfl; have f4_ := HS.out.c 0 0 (v := .int .i64 0) rfl rfl; have f5_ := HS.out.c 0 1 (v := .int .i64 0) rfl rfl; have f6_ := HS.out.c 0 2 (v := .slice C4 ([] : Ts).length e4) rfl rfl) | (go_at_call 10; refine (lawSeries9 0 0 C3 C4 e3 e4 ([] : Ts) _ (HS.out.reads 3 rfl) (HS.out.reads 1 rfl) (by decide)).mono ?_; rintro e_ w1 ⟨rfl, hb⟩; replace HS := sB HS hb; clear hb f1_ f2_ f3_ f4_ f5_ f6_) | (go_at_call 13; refine (specDrawTruncateSeries A c xs _ (HX.out.old HS.out)).mono ?_; rintro e_ w1 ⟨dv, nv, Bv, mv, lv, kv, rfl, hbv, hokv, hkv, hs⟩; replace HS := sN1 HS hs; clear hs) | ((with_reducible refine gate_dst (N := 12) rfl ?_); refine bxL 26 #[(.int .i64 0), (.int .i64 0), (.slice none 0 0)] HS ?_; clear HS; intro g_y w1 hg_y HS) | ((with_reducible refine gate_store (t := 26) (p := 12) rfl ?_); refine stL HS 0 0 #[.int .i64 dv, .int .i64 nv, .slice Bv lv.length mv] rfl rfl rfl rfl rfl ?_; clear HS; intro w1 HS))
      have HBY := Aside0.mk hokv.1
      rcases truncR_cases dv nv lv kv with ⟨hY, he⟩ | ⟨ct, hct, he⟩
      · have HE := Aside0.mk he
        have HT := Aside0.mk (fun t (ht : t ∈ lv.filter (upLen kv)) => coef_at hY ht)
        have hfl : (lv.filter (upLen kv)).length ≤ 1048576 := Nat.le_trans (List.length_filter_le _ _) (bnd_iff.1 HBY.out).1
        obtain ⟨p, ep⟩ : ∃ z, z = lv.filter (upLen kv) := ⟨_, rfl⟩
        rw [← ep] at HE HT hfl
        have HFL := Aside0.mk hfl
        clear ep hY he hfl
        have f1_ := HS.out.c 0 0 (v := .int .i64 dv) rfl rfl
        have f2_ := HS.out.c 0 1 (v := .int .i64 nv) rfl rfl
        have f3_ := HS.out.c 0 2 (v := .slice Bv lv.length mv) rfl rfl
        go_wp2_with (first | (go_at_call 14; refine (got (implTruncateSeries dv nv Bv mv lv kv _ (HS.out.reads 1 rfl) (HS.out.cap 1 rfl) HBY.out) HE.out).mono ?_; rintro e_ w1 ⟨C5, e5, rfl, hs⟩; replace HS := sN1 HS hs; clear hs f1_ f2_ f3_) | ((with_reducible refine gate_dst (N := 14) rfl ?_); refine bxL 26 #[(.int .i64 0), (.int .i64 0), (.slice none 0 0)] HS ?_; clear HS; intro g_sh w1 hg_sh HS) | ((with_reducible refine gate_store (t := 26) (p := 14) rfl ?_); refine stL HS 0 0 #[.int .i64 dv, .int .i64 kv, .slice C5 p.length e5] rfl rfl rfl rfl rfl ?_; clear HS; intro w1 HS; have f1_ := HS.out.c 2 0 (v := .int .i64 dv) rfl rfl; have f2_ := HS.out.c 2 1 (v := .int .i64 nv) rfl rfl; have f3_ := HS.out.c 2 2 (v := .slice Bv lv.length mv) rfl rfl) | (go_at_call 15; refine (got (specTruncateSeries dv nv Bv mv lv kv _ (HS.out.reads 3 rfl) (HS.out.cap 3 rfl) HBY.out) HE.out).mono ?_; rintro e_ w1 ⟨C6, e6, rfl, hs⟩; replace HS := sN1 HS hs; clear hs f1_ f2_ f3_) | ((with_reducible refine gate_dst (N := 16) rfl ?_); refine bxL 26 #[(.int .i64 0), (.int .i64 0), (.slice none 0 0)] HS ?_; clear HS; intro g_dt w1 hg_dt HS) | ((with_reducible refine gate_store (t := 26) (p := 16) rfl ?_); refine stL HS 0 0 #[.int .i64 dv, .int .i64 kv, .slice C6 p.length e6] rfl rfl rfl rfl rfl ?_; clear HS; intro w1 HS; have f1_ := HS.out.c 2 0 (v := .int .i64 dv) rfl rfl; have f2_ := HS.out.c 2 1 (v := .int .i64 kv) rfl rfl; have f3_ := HS.out.c 2 2 (v := .slice C5 p.length e5) rfl rfl; have f4_ := HS.out.c 0 0 (v := .int .i64 dv) rfl rfl; have f5_ := HS.out.c 0 1 (v := .int .i64 kv) rfl rfl; have f6_ := HS.out.c 0 2 (v := .slice C6 p.length e6) rfl rfl) | (go_at_call 10; refine (lawSeries9 dv kv C5 C6 e5 e6 p _ (HS.out.reads 3 rfl) (HS.out.reads 1 rfl) HFL.out).mono ?_; rintro e_ w1 ⟨rfl, hb⟩; replace HS := sB HS hb; clear hb f1_ f2_ f3_ f4_ f5_ f6_))
        have hl9 : p.length ≤ 9223372036854775807 := by have := HFL.out; omega
        go_loopw [20] (fun v w' => ∃ i : Nat, v = .int .i64 (i : Int) ∧ i ≤ p.length ∧ Aside0 (Mod w w' No [bx g_dt 26 #[.int .i64 dv, .int .i64 kv, .slice C6 p.length e6], rowT C6 e6 p, bx g_sh 26 #[.int .i64 dv, .int .i64 kv, .slice C5 p.length e5], rowT C5 e5 p, bx g_y 26 #[.int .i64 dv, .int .i64 nv, .slice Bv lv.length mv], rowT Bv mv lv, bx g_a2 26 #[.int .i64 0, .int .i64 0, .slice C4 ([] : Ts).length e4], rowT C4 e4 ([] : Ts), bx g_a1 26 #[.int .i64 0, .int .i64 0, .slice C3 ([] : Ts).length e3], rowT C3 e3 ([] : Ts), bx g_r2 26 #[.int .i64 0, .int .i64 0, .slice C2 ([] : Ts).length e2], rowT C2 e2 ([] : Ts), bx g_r1 26 #[.int .i64 0, .int .i64 0, .slice C1 ([] : Ts).length e1], rowT C1 e1 ([] : Ts), bx g_x 26 #[.int .i64 dx, .int .i64 nx, .slice Bx lx.length mx], rowT Bx mx lx])) (fun v _ => p.length - (intOf v).toNat)
        case atStart => exact ⟨0, rfl, Nat.zero_le _, HS⟩
        case round =>
          clear HS
          obtain ⟨i, rfl, hi, HS⟩ := hrel
          by_cases hlt : i < p.length
          · obtain ⟨t, ht⟩ : ∃ t, p[i]? = some t := ⟨_, List.getElem?_eq_getElem hlt⟩
            obtain ⟨hq, hz⟩ := HT.out t (List.mem_of_getElem? ht)
            have HE1 := Aside0.mk ht
            have HQ := Aside0.mk hq
            have hz6 : t.1.size ≤ 1048576 := by omega
            clear ht hq hz
            obtain ⟨ad, ea⟩ := row_adr (HS.out.reads 3 rfl) hlt
            cases ea
            have hi1 : (0 : Int) ≤ i := by omega
            have hi2 : (i : Int) < p.length := by omega
            have f1_ := HS.out.c 2 2 (v := .slice (some ad) p.length e5) rfl rfl
            go_wp2
            clear f1_
            replace HS := sD HS
            apply region_told ((fun (A0_ : Nat → Act) (a' : Act) (w' : World) => ∃ (g_va : Nat), a' = A0_ g_va ∧ Aside0 (Mod w w' No [bx g_va 34 #[.int .i64 t.2.1, .int .i64 t.2.2], bx g_dt 26 #[.int .i64 dv, .int .i64 kv, .slice C6 p.length e6], rowT C6 e6 p, bx g_sh 26 #[.int .i64 dv, .int .i64 kv, .slice (some ad) p.length e5], rowT (some ad) e5 p, bx g_y 26 #[.int .i64 dv, .int .i64 nv, .slice Bv lv.length mv], rowT Bv mv lv, bx g_a2 26 #[.int .i64 0, .int .i64 0, .slice C4 ([] : Ts).length e4], rowT C4 e4 ([] : Ts), bx g_a1 26 #[.int .i64 0, .int .i64 0, .slice C3 ([] : Ts).length e3], rowT C3 e3 ([] : Ts), bx g_r2 26 #[.int .i64 0, .int .i64 0, .slice C2 ([] : Ts).length e2], rowT C2 e2 ([] : Ts), bx g_r1 26 #[.int .i64 0, .int .i64 0, .slice C1 ([] : Ts).length e1], rowT C1 e1 ([] : Ts), bx g_x 26 #[.int .i64 dx, .int .i64 nx, .slice Bx lx.length mx], rowT Bx mx lx])) _)
            case h1 =>
              refine ps (.p 1 (.p 3 (.t 0 (.t 2 (.p 4 (.p 5 (.t 6 (.two 7 11 (.p 8 (.p 9 (.p 10 (.e 11 (.d 12 (.p 13 .done)))))) (.e 7 (.p 8 (.p 9 (.p 10 (.d 12 (.p 13 .done)))))))))))))) (fun w' => w'.cell? ⟨g_y, 0, none⟩ = some (.int .i64 dv) ∧ w'.cell? ⟨g_y, 1, none⟩ = some (.int .i64 nv) ∧ w'.cell? ⟨g_y, 2, none⟩ = some (.slice Bv lv.length mv) ∧ w'.cell? ⟨g_sh, 2, none⟩ = some (.slice (some ad) p.length e5) ∧ w'.cell? (ad.add (i * 3)) = some (.string t.1)) [12] ⟨HS.out.c 4 0 (v := .int .i64 dv) rfl rfl, HS.out.c 4 1 (v := .int .i64 nv) rfl rfl, HS.out.c 4 2 (v := .slice Bv lv.length mv) rfl rfl, HS.out.c 2 2 (v := .slice (some ad) p.length e5) rfl rfl, (HS.out.tmg 3 rfl HE1.out).1⟩ (fun hHeld => ?_)
              repeat (first | ((with_reducible refine gate_p ?_); refine rp rfl rfl ?_) | ((with_reducible refine gate_t ?_); refine rt rfl rfl hHeld ?_))
              refine run_two ?_ ?_
              · skip
                refine run_e rfl (fun K hK => ?_)
                refine gc Try.func16 (gotF (implCoefficientOf dv nv Bv mv lv t.1 _ (HS.out.reads 5 rfl) (HS.out.cap 5 rfl) HBY.out hz6) HQ.out) rfl rfl ?_
                rintro e_ w1 ⟨rfl, hb⟩
                refine ⟨_, rfl, ?_⟩
                replace HS := sB HS hb
                refine ge hK ⟨HS.out.c 4 0 (v := .int .i64 dv) rfl rfl, HS.out.c 4 1 (v := .int .i64 nv) rfl rfl, HS.out.c 4 2 (v := .slice Bv lv.length mv) rfl rfl, HS.out.c 2 2 (v := .slice (some ad) p.length e5) rfl rfl, (HS.out.tmg 3 rfl HE1.out).1⟩ (fun hHeld => ?_)
                repeat (first | ((with_reducible refine gate_p ?_); refine rp rfl rfl ?_) | ((with_reducible refine gate_t ?_); refine rt rfl rfl hHeld ?_))
                refine run_e rfl (fun K hK => ?_)
                refine bx1 34 #[(.int .i64 0), (.int .i64 0)] HS ?_
                intro g_va w1 hg_va HS
                refine ge hK ⟨HS.out.c 5 0 (v := .int .i64 dv) rfl rfl, HS.out.c 5 1 (v := .int .i64 nv) rfl rfl, HS.out.c 5 2 (v := .slice Bv lv.length mv) rfl rfl, HS.out.c 3 2 (v := .slice (some ad) p.length e5) rfl rfl, (HS.out.tmg 4 rfl HE1.out).1⟩ (fun hHeld => ?_)
                refine run_d rfl (fun K hK => ?_)
                refine st1 HS 0 0 #[.int .i64 t.2.1, .int .i64 t.2.2] rfl rfl rfl rfl rfl ?_
                intro w1 HS
                refine goD hK rfl ?_
                repeat (first | ((with_reducible refine gate_p ?_); refine rp rfl rfl ?_) | ((with_reducible refine gate_t ?_); refine rt rfl rfl hHeld ?_))
                refine run_done ?_
                exact ⟨g_va, rfl, HS⟩
              · skip
                refine run_e rfl (fun K hK => ?_)
                refine bx1 34 #[(.int .i64 0), (.int .i64 0)] HS ?_
                intro g_va w1 hg_va HS
                refine ge hK ⟨HS.out.c 5 0 (v := .int .i64 dv) rfl rfl, HS.out.c 5 1 (v := .int .i64 nv) rfl rfl, HS.out.c 5 2 (v := .slice Bv lv.length mv) rfl rfl, HS.out.c 3 2 (v := .slice (some ad) p.length e5) rfl rfl, (HS.out.tmg 4 rfl HE1.out).1⟩ (fun hHeld => ?_)
                refine run_e rfl (fun K hK => ?_)
                refine gc Try.func16 (gotF (implCoefficientOf dv nv Bv mv lv t.1 _ (HS.out.reads 6 rfl) (HS.out.cap 6 rfl) HBY.out hz6) HQ.out) rfl rfl ?_
                rintro e_ w1 ⟨rfl, hb⟩
                refine ⟨_, rfl, ?_⟩
                replace HS := sB HS hb
                refine ge hK ⟨HS.out.c 5 0 (v := .int .i64 dv) rfl rfl, HS.out.c 5 1 (v := .int .i64 nv) rfl rfl, HS.out.c 5 2 (v := .slice Bv lv.length mv) rfl rfl, HS.out.c 3 2 (v := .slice (some ad) p.length e5) rfl rfl, (HS.out.tmg 4 rfl HE1.out).1⟩ (fun hHeld => ?_)
                repeat (first | ((with_reducible refine gate_p ?_); refine rp rfl rfl ?_) | ((with_reducible refine gate_t ?_); refine rt rfl rfl hHeld ?_))
                refine run_d rfl (fun K hK => ?_)
                refine st1 HS 0 0 #[.int .i64 t.2.1, .int .i64 t.2.2] rfl rfl rfl rfl rfl ?_
                intro w1 HS
                refine goD hK rfl ?_
                repeat (first | ((with_reducible refine gate_p ?_); refine rp rfl rfl ?_) | ((with_reducible refine gate_t ?_); refine rt rfl rfl hHeld ?_))
                refine run_done ?_
                have n_ := HS.out.sel [0, 1, 2, 3, 4, 5, 6, 7, 8, 9, 10, 11, 12, 13, 14, 15, 16] (by decide)
                simp only [List.filterMap_cons, List.filterMap_nil, List.getElem?_cons_zero, List.getElem?_cons_succ] at n_
                exact ⟨g_va, rfl, ⟨n_⟩⟩
            clear HS
            rintro a_ w1 ⟨g_va, rfl, HS⟩
            go_wp2
            replace HS := sD HS
            refine ps (.p 0 (.p 1 (.p 2 (.p 4 (.p 6 (.t 3 (.t 5 (.p 7 (.p 8 (.t 9 (.p 10 (.p 11 .done)))))))))))) (fun w' => w'.cell? ⟨g_va, 0, none⟩ = some (.int .i64 t.2.1) ∧ w'.cell? ⟨g_va, 1, none⟩ = some (.int .i64 t.2.2) ∧ w'.cell? ⟨g_sh, 2, none⟩ = some (.slice (some ad) p.length e5) ∧ w'.cell? ⟨(ad.add (i * 3)).block, (ad.add (i * 3)).off + 1, none⟩ = some (.int .i64 t.2.1) ∧ w'.cell? ⟨(ad.add (i * 3)).block, (ad.add (i * 3)).off + 1 + 1, none⟩ = some (.int .i64 t.2.2)) [] ⟨HS.out.c 0 0 (v := .int .i64 t.2.1) rfl rfl, HS.out.c 0 1 (v := .int .i64 t.2.2) rfl rfl, HS.out.c 3 2 (v := .slice (some ad) p.length e5) rfl rfl, (HS.out.tmg 4 rfl HE1.out).2.1, c2 ((HS.out.tmg 4 rfl HE1.out).2.2)⟩ (fun hHeld => ?_)
            repeat (first | ((with_reducible refine gate_p ?_); refine rp rfl rfl ?_) | ((with_reducible refine gate_t ?_); refine rt rfl rfl hHeld ?_))
            refine run_done ?_
            clear hHeld
            go_wp2
            replace HS : Aside0 (Mod _ _ _ [_, _, _, _, _, _, _, _, _, _, _, _, _, _, _, _]) := sX HS [1, 2, 3, 4, 5, 6, 7, 8, 9, 10, 11, 12, 13, 14, 15, 16]
            go_roundw
            case rel => exact ⟨i + 1, by go_num, by omega, HS⟩
            case measure => simp [intOf]; omega
          · have hlt2 : ¬ ((i : Int) < (p.length : Int)) := by omega
            have f1_ := HS.out.c 2 2 (v := .slice C5 p.length e5) rfl rfl
            go_upto_region 29 with (first | (go_at_call 17; refine (specDrawCommutatorOf A c xs _ (HX.out.old HS.out)).mono ?_; rintro e_ w1 ⟨da, na, Ba, ma, la, db, nb, Bb, mb, lb, rfl, hba, hbb, hoka, hokb, hs⟩; replace HS := sN2 HS hs; clear hs f1_) | ((with_reducible refine gate_dst (N := 23) rfl ?_); refine bxL 26 #[(.int .i64 0), (.int .i64 0), (.slice none 0 0)] HS ?_; clear HS; intro g_a w1 hg_a HS) | ((with_reducible refine gate_dst (N := 24) rfl ?_); refine bxL 26 #[(.int .i64 0), (.int .i64 0), (.slice none 0 0)] HS ?_; clear HS; intro g_b w1 hg_b HS) | ((with_reducible refine gate_store (t := 26) (p := 23) rfl ?_); refine stL HS 1 0 #[.int .i64 da, .int .i64 na, .slice Ba la.length ma] rfl rfl rfl rfl rfl ?_; clear HS; intro w1 HS) | ((with_reducible refine gate_store (t := 26) (p := 24) rfl ?_); refine stL HS 0 0 #[.int .i64 db, .int .i64 nb, .slice Bb lb.length mb] rfl rfl rfl rfl rfl ?_; clear HS; intro w1 HS))
            rcases mulR_cases da na la db nb lb with ⟨p, hA, hB, rfl, rfl, _, he, hP⟩ | ⟨cm, hcm, he⟩
            · have HE := Aside0.mk he
              have HBA := Aside0.mk (isS_bnd' hA)
              have HBB := Aside0.mk (isS_bnd' hB)
              have HBP := Aside0.mk (isS_bnd' hP)
              have HRA := Aside0.mk (revR_yes (b := false) hA)
              have HRB := Aside0.mk (revR_yes (b := false) hB)
              have HRP := Aside0.mk (revR_yes (b := false) hP)
              have HBRA := Aside0.mk (isS_bnd' (rev_isS false hA))
              have HBRB := Aside0.mk (isS_bnd' (rev_isS false hB))
              have HBRP := Aside0.mk (isS_bnd' (rev_isS false hP))
              have HMR := Aside0.mk (fun hk => mulR_rev he hk)
              obtain ⟨ra, era⟩ : ∃ z, z = tabT da.toNat na.toNat (revF false la) := ⟨_, rfl⟩
              obtain ⟨rb, erb⟩ : ∃ z, z = tabT da.toNat na.toNat (revF false lb) := ⟨_, rfl⟩
              obtain ⟨rp, erp⟩ : ∃ z, z = tabT da.toNat na.toNat (revF false p) := ⟨_, rfl⟩
              rw [← era] at HRA HBRA HMR
              rw [← erb] at HRB HBRB HMR
              rw [← erp] at HRP HBRP HMR
              clear era erb erp hA hB hP he
              rcases mulR_cases da na rb da na ra with ⟨q, _, _, _, _, _, hq, _⟩ | ⟨cq, hcq, hq⟩
              · have hrv := HMR.out (by rw [hq])
                have HQ := Aside0.mk hrv
                clear hq hrv HMR
                have f1_ := HS.out.c 1 0 (v := .int .i64 da) rfl rfl
                have f2_ := HS.out.c 1 1 (v := .int .i64 na) rfl rfl
                have f3_ := HS.out.c 1 2 (v := .slice Ba la.length ma) rfl rfl
                have f4_ := HS.out.c 0 0 (v := .int .i64 da) rfl rfl
                have f5_ := HS.out.c 0 1 (v := .int .i64 na) rfl rfl
                have f6_ := HS.out.c 0 2 (v := .slice Bb lb.length mb) rfl rfl
                have tk2_ : True := trivial
                have tk3_ : True := trivial
                have tk4_ : True := trivial
                go_upto_region 37 with (first | (go_at_call 18; clear tk2_; refine (got (implMultiplySeries da na Ba ma la da na Bb mb lb _ (HS.out.reads 2 rfl) (HS.out.cap 2 rfl) HBA.out (HS.out.reads 3 rfl) (HS.out.cap 3 rfl) HBB.out) HE.out).mono ?_; rintro e_ w1 ⟨C7, e7, rfl, hs⟩; replace HS := sN1 HS hs; clear hs f1_ f2_ f3_ f4_ f5_ f6_) | ((with_reducible refine gate_dst (N := 25) rfl ?_); refine bxL 26 #[(.int .i64 0), (.int .i64 0), (.slice none 0 0)] HS ?_; clear HS; intro g_pa w1 hg_pa HS) | ((with_reducible refine gate_store (t := 26) (p := 25) rfl ?_); refine stL HS 0 0 #[.int .i64 da, .int .i64 na, .slice C7 p.length e7] rfl rfl rfl rfl rfl ?_; clear HS; intro w1 HS; have f1_ := HS.out.c 3 0 (v := .int .i64 da) rfl rfl; have f2_ := HS.out.c 3 1 (v := .int .i64 na) rfl rfl; have f3_ := HS.out.c 3 2 (v := .slice Ba la.length ma) rfl rfl) | (go_at_call 8; clear tk3_; refine (got (implReversalOf da na Ba ma la _ (HS.out.reads 4 rfl) (HS.out.cap 4 rfl) HBA.out) HRA.out).mono ?_; rintro e_ w1 ⟨C8, e8, rfl, hs⟩; replace HS := sN1 HS hs; clear hs f1_ f2_ f3_) | ((with_reducible refine gate_dst (N := 27) rfl ?_); refine bxL 26 #[(.int .i64 0), (.int .i64 0), (.slice none 0 0)] HS ?_; clear HS; intro g_pb w1 hg_pb HS) | ((with_reducible refine gate_store (t := 26) (p := 27) rfl ?_); refine stL HS 0 0 #[.int .i64 da, .int .i64 na, .slice C8 ra.length e8] rfl rfl rfl rfl rfl ?_; clear HS; intro w1 HS; have f1_ := HS.out.c 4 0 (v := .int .i64 da) rfl rfl; have f2_ := HS.out.c 4 1 (v := .int .i64 na) rfl rfl; have f3_ := HS.out.c 4 2 (v := .slice Bb lb.length mb) rfl rfl) | (go_at_call 8; clear tk4_; refine (got (implReversalOf da na Bb mb lb _ (HS.out.reads 7 rfl) (HS.out.cap 7 rfl) HBB.out) HRB.out).mono ?_; rintro e_ w1 ⟨C9, e9, rfl, hs⟩; replace HS := sN1 HS hs; clear hs f1_ f2_ f3_) | ((with_reducible refine gate_dst (N := 29) rfl ?_); refine bxL 26 #[(.int .i64 0), (.int .i64 0), (.slice none 0 0)] HS ?_; clear HS; intro g_pr w1 hg_pr HS) | ((with_reducible refine gate_store (t := 26) (p := 29) rfl ?_); refine stL HS 0 0 #[.int .i64 da, .int .i64 na, .slice C9 rb.length e9] rfl rfl rfl rfl rfl ?_; clear HS; intro w1 HS; have f1_ := HS.out.c 0 0 (v := .int .i64 da) rfl rfl; have f2_ := HS.out.c 0 1 (v := .int .i64 na) rfl rfl; have f3_ := HS.out.c 0 2 (v := .slice C9 rb.length e9) rfl rfl; have f4_ := HS.out.c 2 0 (v := .int .i64 da) rfl rfl; have f5_ := HS.out.c 2 1 (v := .int .i64 na) rfl rfl; have f6_ := HS.out.c 2 2 (v := .slice C8 ra.length e8) rfl rfl) | (go_at_call 18; refine (got (implMultiplySeries da na C9 e9 rb da na C8 e8 ra _ (HS.out.reads 1 rfl) (HS.out.cap 1 rfl) HBRB.out (HS.out.reads 3 rfl) (HS.out.cap 3 rfl) HBRA.out) HQ.out).mono ?_; rintro e_ w1 ⟨C10, e10, rfl, hs⟩; replace HS := sN1 HS hs; clear hs f1_ f2_ f3_ f4_ f5_ f6_) | ((with_reducible refine gate_dst (N := 31) rfl ?_); refine bxL 26 #[(.int .i64 0), (.int .i64 0), (.slice none 0 0)] HS ?_; clear HS; intro g_fi w1 hg_fi HS) | ((with_reducible refine gate_store (t := 26) (p := 31) rfl ?_); refine stL HS 0 0 #[.int .i64 da, .int .i64 na, .slice C10 rp.length e10] rfl rfl rfl rfl rfl ?_; clear HS; intro w1 HS; have f1_ := HS.out.c 6 0 (v := .int .i64 da) rfl rfl; have f2_ := HS.out.c 6 1 (v := .int .i64 na) rfl rfl; have f3_ := HS.out.c 6 2 (v := .slice C7 p.length e7) rfl rfl) | (go_at_call 8; refine (got (implReversalOf da na C7 e7 p _ (HS.out.reads 7 rfl) (HS.out.cap 7 rfl) HBP.out) HRP.out).mono ?_; rintro e_ w1 ⟨C11, e11, rfl, hs⟩; replace HS := sN1 HS hs; clear hs f1_ f2_ f3_) | ((with_reducible refine gate_dst (N := 33) rfl ?_); refine bxL 26 #[(.int .i64 0), (.int .i64 0), (.slice none 0 0)] HS ?_; clear HS; intro g_se w1 hg_se HS) | ((with_reducible refine gate_store (t := 26) (p := 33) rfl ?_); refine stL HS 0 0 #[.int .i64 da, .int .i64 na, .slice C11 rp.length e11] rfl rfl rfl rfl rfl ?_; clear HS; intro w1 HS; have f1_ := HS.out.c 2 0 (v := .int .i64 da) rfl rfl; have f2_ := HS.out.c 2 1 (v := .int .i64 na) rfl rfl; have f3_ := HS.out.c 2 2 (v := .slice C10 rp.length e10) rfl rfl; have f4_ := HS.out.c 0 0 (v := .int .i64 da) rfl rfl; have f5_ := HS.out.c 0 1 (v := .int .i64 na) rfl rfl; have f6_ := HS.out.c 0 2 (v := .slice C11 rp.length e11) rfl rfl) | (go_at_call 10; refine (lawSeries9 da na C10 C11 e10 e11 rp _ (HS.out.reads 3 rfl) (HS.out.reads 1 rfl) (bnd_iff.1 HBRP.out).1).mono ?_; rintro e_ w1 ⟨rfl, hb⟩; replace HS := sB HS hb; clear hb f1_ f2_ f3_ f4_ f5_ f6_))
                have f1_ := HS.out.c 26 0 (v := .int .i64 0) rfl rfl
                have f2_ := HS.out.c 26 1 (v := .int .i64 0) rfl rfl
                have f3_ := HS.out.c 26 2 (v := .slice C1 ([] : Ts).length e1) rfl rfl
                go_wp2_with (first | (go_at_call 19; refine (lawNone9 _ C1 e1).mono ?_; rintro e_ w1 ⟨rfl, hb⟩; replace HS := sB HS hb; clear hb f1_ f2_ f3_))
                go_ret
                exact ⟨rfl, (HS.out.sel [] (by decide)).below⟩
              · have HQ := Aside0.mk hq
                have hcq0 : (cq == 0) = false := by simpa using hcq
                clear hq hcq HMR
                have f1_ := HS.out.c 1 0 (v := .int .i64 da) rfl rfl
                have f2_ := HS.out.c 1 1 (v := .int .i64 na) rfl rfl
                have f3_ := HS.out.c 1 2 (v := .slice Ba la.length ma) rfl rfl
                have f4_ := HS.out.c 0 0 (v := .int .i64 da) rfl rfl
                have f5_ := HS.out.c 0 1 (v := .int .i64 na) rfl rfl
                have f6_ := HS.out.c 0 2 (v := .slice Bb lb.length mb) rfl rfl
                have tk5_ : True := trivial
                have tk6_ : True := trivial
                have tk7_ : True := trivial
                go_upto_region 37 with (first | (go_at_call 18; clear tk5_; refine (got (implMultiplySeries da na Ba ma la da na Bb mb lb _ (HS.out.reads 2 rfl) (HS.out.cap 2 rfl) HBA.out (HS.out.reads 3 rfl) (HS.out.cap 3 rfl) HBB.out) HE.out).mono ?_; rintro e_ w1 ⟨C12, e12, rfl, hs⟩; replace HS := sN1 HS hs; clear hs f1_ f2_ f3_ f4_ f5_ f6_) | ((with_reducible refine gate_dst (N := 25) rfl ?_); refine bxL 26 #[(.int .i64 0), (.int .i64 0), (.slice none 0 0)] HS ?_; clear HS; intro g_pa w1 hg_pa HS) | ((with_reducible refine gate_store (t := 26) (p := 25) rfl ?_); refine stL HS 0 0 #[.int .i64 da, .int .i64 na, .slice C12 p.length e12] rfl rfl rfl rfl rfl ?_; clear HS; intro w1 HS; have f1_ := HS.out.c 3 0 (v := .int .i64 da) rfl rfl; have f2_ := HS.out.c 3 1 (v := .int .i64 na) rfl rfl; have f3_ := HS.out.c 3 2 (v := .slice Ba la.length ma) rfl rfl) | (go_at_call 8; clear tk6_; refine (got (implReversalOf da na Ba ma la _ (HS.out.reads 4 rfl) (HS.out.cap 4 rfl) HBA.out) HRA.out).mono ?_; rintro e_ w1 ⟨C13, e13, rfl, hs⟩; replace HS := sN1 HS hs; clear hs f1_ f2_ f3_) | ((with_reducible refine gate_dst (N := 27) rfl ?_); refine bxL 26 #[(.int .i64 0), (.int .i64 0), (.slice none 0 0)] HS ?_; clear HS; intro g_pb w1 hg_pb HS) | ((with_reducible refine gate_store (t := 26) (p := 27) rfl ?_); refine stL HS 0 0 #[.int .i64 da, .int .i64 na, .slice C13 ra.length e13] rfl rfl rfl rfl rfl ?_; clear HS; intro w1 HS; have f1_ := HS.out.c 4 0 (v := .int .i64 da) rfl rfl; have f2_ := HS.out.c 4 1 (v := .int .i64 na) rfl rfl; have f3_ := HS.out.c 4 2 (v := .slice Bb lb.length mb) rfl rfl) | (go_at_call 8; clear tk7_; refine (got (implReversalOf da na Bb mb lb _ (HS.out.reads 7 rfl) (HS.out.cap 7 rfl) HBB.out) HRB.out).mono ?_; rintro e_ w1 ⟨C14, e14, rfl, hs⟩; replace HS := sN1 HS hs; clear hs f1_ f2_ f3_) | ((with_reducible refine gate_dst (N := 29) rfl ?_); refine bxL 26 #[(.int .i64 0), (.int .i64 0), (.slice none 0 0)] HS ?_; clear HS; intro g_pr w1 hg_pr HS) | ((with_reducible refine gate_store (t := 26) (p := 29) rfl ?_); refine stL HS 0 0 #[.int .i64 da, .int .i64 na, .slice C14 rb.length e14] rfl rfl rfl rfl rfl ?_; clear HS; intro w1 HS; have f1_ := HS.out.c 0 0 (v := .int .i64 da) rfl rfl; have f2_ := HS.out.c 0 1 (v := .int .i64 na) rfl rfl; have f3_ := HS.out.c 0 2 (v := .slice C14 rb.length e14) rfl rfl; have f4_ := HS.out.c 2 0 (v := .int .i64 da) rfl rfl; have f5_ := HS.out.c 2 1 (v := .int .i64 na) rfl rfl; have f6_ := HS.out.c 2 2 (v := .slice C13 ra.length e13) rfl rfl) | (go_at_call 18; refine (got (implMultiplySeries da na C14 e14 rb da na C13 e13 ra _ (HS.out.reads 1 rfl) (HS.out.cap 1 rfl) HBRB.out (HS.out.reads 3 rfl) (HS.out.cap 3 rfl) HBRA.out) HQ.out).mono ?_; rintro e_ w1 ⟨C15, e15, rfl, hs⟩; replace HS := sN1 HS hs; clear hs f1_ f2_ f3_ f4_ f5_ f6_) | ((with_reducible refine gate_dst (N := 31) rfl ?_); refine bxL 26 #[(.int .i64 0), (.int .i64 0), (.slice none 0 0)] HS ?_; clear HS; intro g_fi w1 hg_fi HS) | ((with_reducible refine gate_store (t := 26) (p := 31) rfl ?_); refine stL HS 0 0 #[.int .i64 0, .int .i64 0, .slice C15 ([] : Ts).length e15] rfl rfl rfl rfl rfl ?_; clear HS; intro w1 HS; have f1_ := HS.out.c 6 0 (v := .int .i64 da) rfl rfl; have f2_ := HS.out.c 6 1 (v := .int .i64 na) rfl rfl; have f3_ := HS.out.c 6 2 (v := .slice C12 p.length e12) rfl rfl) | (go_at_call 8; refine (got (implReversalOf da na C12 e12 p _ (HS.out.reads 7 rfl) (HS.out.cap 7 rfl) HBP.out) HRP.out).mono ?_; rintro e_ w1 ⟨C16, e16, rfl, hs⟩; replace HS := sN1 HS hs; clear hs f1_ f2_ f3_) | ((with_reducible refine gate_dst (N := 33) rfl ?_); refine bxL 26 #[(.int .i64 0), (.int .i64 0), (.slice none 0 0)] HS ?_; clear HS; intro g_se w1 hg_se HS) | ((with_reducible refine gate_store (t := 26) (p := 33) rfl ?_); refine stL HS 0 0 #[.int .i64 da, .int .i64 na, .slice C16 rp.length e16] rfl rfl rfl rfl rfl ?_; clear HS; intro w1 HS))
                have f1_ := HS.out.c 26 0 (v := .int .i64 0) rfl rfl
                have f2_ := HS.out.c 26 1 (v := .int .i64 0) rfl rfl
                have f3_ := HS.out.c 26 2 (v := .slice C1 ([] : Ts).length e1) rfl rfl
                go_wp2_with (first | (go_at_call 19; refine (lawNone9 _ C1 e1).mono ?_; rintro e_ w1 ⟨rfl, hb⟩; replace HS := sB HS hb; clear hb f1_ f2_ f3_))
                go_ret
                exact ⟨rfl, (HS.out.sel [] (by decide)).below⟩
            · have HE := Aside0.mk he
              have hcm0 : (cm == 0) = false := by simpa using hcm
              have HBA := Aside0.mk hoka.1
              have HBB := Aside0.mk hokb.1
              clear he hcm
              have f1_ := HS.out.c 1 0 (v := .int .i64 da) rfl rfl
              have f2_ := HS.out.c 1 1 (v := .int .i64 na) rfl rfl
              have f3_ := HS.out.c 1 2 (v := .slice Ba la.length ma) rfl rfl
              have f4_ := HS.out.c 0 0 (v := .int .i64 db) rfl rfl
              have f5_ := HS.out.c 0 1 (v := .int .i64 nb) rfl rfl
              have f6_ := HS.out.c 0 2 (v := .slice Bb lb.length mb) rfl rfl
              go_upto_region 37 with (first | (go_at_call 18; refine (got (implMultiplySeries da na Ba ma la db nb Bb mb lb _ (HS.out.reads 2 rfl) (HS.out.cap 2 rfl) HBA.out (HS.out.reads 3 rfl) (HS.out.cap 3 rfl) HBB.out) HE.out).mono ?_; rintro e_ w1 ⟨C17, e17, rfl, hs⟩; replace HS := sN1 HS hs; clear hs f1_ f2_ f3_ f4_ f5_ f6_) | ((with_reducible refine gate_dst (N := 25) rfl ?_); refine bxL 26 #[(.int .i64 0), (.int .i64 0), (.slice none 0 0)] HS ?_; clear HS; intro g_pa w1 hg_pa HS) | ((with_reducible refine gate_store (t := 26) (p := 25) rfl ?_); refine stL HS 0 0 #[.int .i64 0, .int .i64 0, .slice C17 ([] : Ts).length e17] rfl rfl rfl rfl rfl ?_; clear HS; intro w1 HS))
              have f1_ := HS.out.c 18 0 (v := .int .i64 0) rfl rfl
              have f2_ := HS.out.c 18 1 (v := .int .i64 0) rfl rfl
              have f3_ := HS.out.c 18 2 (v := .slice C1 ([] : Ts).length e1) rfl rfl
              go_wp2_with (first | (go_at_call 19; refine (lawNone9 _ C1 e1).mono ?_; rintro e_ w1 ⟨rfl, hb⟩; replace HS := sB HS hb; clear hb f1_ f2_ f3_))
              go_ret
              exact ⟨rfl, (HS.out.sel [] (by decide)).below⟩
      · have HE := Aside0.mk he
        have hct0 : (ct == 0) = false := by simpa using hct
        have hct1 : (ct != ct) = false := by simp
        clear he hct
        have f1_ := HS.out.c 0 0 (v := .int .i64 dv) rfl rfl
        have f2_ := HS.out.c 0 1 (v := .int .i64 nv) rfl rfl
        have f3_ := HS.out.c 0 2 (v := .slice Bv lv.length mv) rfl rfl
        go_upto_region 29 with (first | (go_at_call 14; refine (got (implTruncateSeries dv nv Bv mv lv kv _ (HS.out.reads 1 rfl) (HS.out.cap 1 rfl) HBY.out) HE.out).mono ?_; rintro e_ w1 ⟨C18, e18, rfl, hs⟩; replace HS := sN1 HS hs; clear hs f1_ f2_ f3_) | ((with_reducible refine gate_dst (N := 14) rfl ?_); refine bxL 26 #[(.int .i64 0), (.int .i64 0), (.slice none 0 0)] HS ?_; clear HS; intro g_sh w1 hg_sh HS) | ((with_reducible refine gate_store (t := 26) (p := 14) rfl ?_); refine stL HS 0 0 #[.int .i64 0, .int .i64 0, .slice C18 ([] : Ts).length e18] rfl rfl rfl rfl rfl ?_; clear HS; intro w1 HS; have f1_ := HS.out.c 2 0 (v := .int .i64 dv) rfl rfl; have f2_ := HS.out.c 2 1 (v := .int .i64 nv) rfl rfl; have f3_ := HS.out.c 2 2 (v := .slice Bv lv.length mv) rfl rfl) | (go_at_call 15; refine (got (specTruncateSeries dv nv Bv mv lv kv _ (HS.out.reads 3 rfl) (HS.out.cap 3 rfl) HBY.out) HE.out).mono ?_; rintro e_ w1 ⟨C19, e19, rfl, hs⟩; replace HS := sN1 HS hs; clear hs f1_ f2_ f3_) | ((with_reducible refine gate_dst (N := 16) rfl ?_); refine bxL 26 #[(.int .i64 0), (.int .i64 0), (.slice none 0 0)] HS ?_; clear HS; intro g_dt w1 hg_dt HS) | ((with_reducible refine gate_store (t := 26) (p := 16) rfl ?_); refine stL HS 0 0 #[.int .i64 0, .int .i64 0, .slice C19 ([] : Ts).length e19] rfl rfl rfl rfl rfl ?_; clear HS; intro w1 HS; have f1_ := HS.out.c 2 0 (v := .int .i64 0) rfl rfl; have f2_ := HS.out.c 2 1 (v := .int .i64 0) rfl rfl; have f3_ := HS.out.c 2 2 (v := .slice C18 ([] : Ts).length e18) rfl rfl; have f4_ := HS.out.c 0 0 (v := .int .i64 0) rfl rfl; have f5_ := HS.out.c 0 1 (v := .int .i64 0) rfl rfl; have f6_ := HS.out.c 0 2 (v := .slice C19 ([] : Ts).length e19) rfl rfl) | (go_at_call 10; refine (lawSeries9 0 0 C18 C19 e18 e19 ([] : Ts) _ (HS.out.reads 3 rfl) (HS.out.reads 1 rfl) (by decide)).mono ?_; rintro e_ w1 ⟨rfl, hb⟩; replace HS := sB HS hb; clear hb f1_ f2_ f3_ f4_ f5_ f6_) | (go_at_call 17; refine (specDrawCommutatorOf A c xs _ (HX.out.old HS.out)).mono ?_; rintro e_ w1 ⟨da, na, Ba, ma, la, db, nb, Bb, mb, lb, rfl, hba, hbb, hoka, hokb, hs⟩; replace HS := sN2 HS hs; clear hs) | ((with_reducible refine gate_dst (N := 23) rfl ?_); refine bxL 26 #[(.int .i64 0), (.int .i64 0), (.slice none 0 0)] HS ?_; clear HS; intro g_a w1 hg_a HS) | ((with_reducible refine gate_dst (N := 24) rfl ?_); refine bxL 26 #[(.int .i64 0), (.int .i64 0), (.slice none 0 0)] HS ?_; clear HS; intro g_b w1 hg_b HS) | ((with_reducible refine gate_store (t := 26) (p := 23) rfl ?_); refine stL HS 1 0 #[.int .i64 da, .int .i64 na, .slice Ba la.length ma] rfl rfl rfl rfl rfl ?_; clear HS; intro w1 HS) | ((with_reducible refine gate_store (t := 26) (p := 24) rfl ?_); refine stL HS 0 0 #[.int .i64 db, .int .i64 nb, .slice Bb lb.length mb] rfl rfl rfl rfl rfl ?_; clear HS; intro w1 HS))
        rcases mulR_cases da na la db nb lb with ⟨p, hA, hB, rfl, rfl, _, he, hP⟩ | ⟨cm, hcm, he⟩
        · have HE := Aside0.mk he
          have HBA := Aside0.mk (isS_bnd' hA)
          have HBB := Aside0.mk (isS_bnd' hB)
          have HBP := Aside0.mk (isS_bnd' hP)
          have HRA := Aside0.mk (revR_yes (b := false) hA)
          have HRB := Aside0.mk (revR_yes (b := false) hB)
          have HRP := Aside0.mk (revR_yes (b := false) hP)
          have HBRA := Aside0.mk (isS_bnd' (rev_isS false hA))
          have HBRB := Aside0.mk (isS_bnd' (rev_isS false hB))
          have HBRP := Aside0.mk (isS_bnd' (rev_isS false hP))
          have HMR := Aside0.mk (fun hk => mulR_rev he hk)
          obtain ⟨ra, era⟩ : ∃ z, z = tabT da.toNat na.toNat (revF false la) := ⟨_, rfl⟩
          obtain ⟨rb, erb⟩ : ∃ z, z = tabT da.toNat na.toNat (revF false lb) := ⟨_, rfl⟩
          obtain ⟨rp, erp⟩ : ∃ z, z = tabT da.toNat na.toNat (revF false p) := ⟨_, rfl⟩
          rw [← era] at HRA HBRA HMR
          rw [← erb] at HRB HBRB HMR
          rw [← erp] at HRP HBRP HMR
          clear era erb erp hA hB hP he
          rcases mulR_cases da na rb da na ra with ⟨q, _, _, _, _, _, hq, _⟩ | ⟨cq, hcq, hq⟩
          · have hrv := HMR.out (by rw [hq])
            have HQ := Aside0.mk hrv
            clear hq hrv HMR
            have f1_ := HS.out.c 1 0 (v := .int .i64 da) rfl rfl
            have f2_ := HS.out.c 1 1 (v := .int .i64 na) rfl rfl
            have f3_ := HS.out.c 1 2 (v := .slice Ba la.length ma) rfl rfl
            have f4_ := HS.out.c 0 0 (v := .int .i64 da) rfl rfl
            have f5_ := HS.out.c 0 1 (v := .int .i64 na) rfl rfl
            have f6_ := HS.out.c 0 2 (v := .slice Bb lb.length mb) rfl rfl
            have tk8_ : True := trivial
            have tk9_ : True := trivial
            have tk10_ : True := trivial
            go_upto_region 37 with (first | (go_at_call 18; clear tk8_; refine (got (implMultiplySeries da na Ba ma la da na Bb mb lb _ (HS.out.reads 2 rfl) (HS.out.cap 2 rfl) HBA.out (HS.out.reads 3 rfl) (HS.out.cap 3 rfl) HBB.out) HE.out).mono ?_; rintro e_ w1 ⟨C20, e20, rfl, hs⟩; replace HS := sN1 HS hs; clear hs f1_ f2_ f3_ f4_ f5_ f6_) | ((with_reducible refine gate_dst (N := 25) rfl ?_); refine bxL 26 #[(.int .i64 0), (.int .i64 0), (.slice none 0 0)] HS ?_; clear HS; intro g_pa w1 hg_pa HS) | ((with_reducible refine gate_store (t := 26) (p := 25) rfl ?_); refine stL HS 0 0 #[.int .i64 da, .int .i64 na, .slice C20 p.length e20] rfl rfl rfl rfl rfl ?_; clear HS; intro w1 HS; have f1_ := HS.out.c 3 0 (v := .int .i64 da) rfl rfl; have f2_ := HS.out.c 3 1 (v := .int .i64 na) rfl rfl; have f3_ := HS.out.c 3 2 (v := .slice Ba la.length ma) rfl rfl) | (go_at_call 8; clear tk9_; refine (got (implReversalOf da na Ba ma la _ (HS.out.reads 4 rfl) (HS.out.cap 4 rfl) HBA.out) HRA.out).mono ?_; rintro e_ w1 ⟨C21, e21, rfl, hs⟩; replace HS := sN1 HS hs; clear hs f1_ f2_ f3_) | ((with_reducible refine gate_dst (N := 27) rfl ?_); refine bxL 26 #[(.int .i64 0), (.int .i64 0), (.slice none 0 0)] HS ?_; clear HS; intro g_pb w1 hg_pb HS) | ((with_reducible refine gate_store (t := 26) (p := 27) rfl ?_); refine stL HS 0 0 #[.int .i64 da, .int .i64 na, .slice C21 ra.length e21] rfl rfl rfl rfl rfl ?_; clear HS; intro w1 HS; have f1_ := HS.out.c 4 0 (v := .int .i64 da) rfl rfl; have f2_ := HS.out.c 4 1 (v := .int .i64 na) rfl rfl; have f3_ := HS.out.c 4 2 (v := .slice Bb lb.length mb) rfl rfl) | (go_at_call 8; clear tk10_; refine (got (implReversalOf da na Bb mb lb _ (HS.out.reads 7 rfl) (HS.out.cap 7 rfl) HBB.out) HRB.out).mono ?_; rintro e_ w1 ⟨C22, e22, rfl, hs⟩; replace HS := sN1 HS hs; clear hs f1_ f2_ f3_) | ((with_reducible refine gate_dst (N := 29) rfl ?_); refine bxL 26 #[(.int .i64 0), (.int .i64 0), (.slice none 0 0)] HS ?_; clear HS; intro g_pr w1 hg_pr HS) | ((with_reducible refine gate_store (t := 26) (p := 29) rfl ?_); refine stL HS 0 0 #[.int .i64 da, .int .i64 na, .slice C22 rb.length e22] rfl rfl rfl rfl rfl ?_; clear HS; intro w1 HS; have f1_ := HS.out.c 0 0 (v := .int .i64 da) rfl rfl; have f2_ := HS.out.c 0 1 (v := .int .i64 na) rfl rfl; have f3_ := HS.out.c 0 2 (v := .slice C22 rb.length e22) rfl rfl; have f4_ := HS.out.c 2 0 (v := .int .i64 da) rfl rfl; have f5_ := HS.out.c 2 1 (v := .int .i64 na) rfl rfl; have f6_ := HS.out.c 2 2 (v := .slice C21 ra.length e21) rfl rfl) | (go_at_call 18; refine (got (implMultiplySeries da na C22 e22 rb da na C21 e21 ra _ (HS.out.reads 1 rfl) (HS.out.cap 1 rfl) HBRB.out (HS.out.reads 3 rfl) (HS.out.cap 3 rfl) HBRA.out) HQ.out).mono ?_; rintro e_ w1 ⟨C23, e23, rfl, hs⟩; replace HS := sN1 HS hs; clear hs f1_ f2_ f3_ f4_ f5_ f6_) | ((with_reducible refine gate_dst (N := 31) rfl ?_); refine bxL 26 #[(.int .i64 0), (.int .i64 0), (.slice none 0 0)] HS ?_; clear HS; intro g_fi w1 hg_fi HS) | ((with_reducible refine gate_store (t := 26) (p := 31) rfl ?_); refine stL HS 0 0 #[.int .i64 da, .int .i64 na, .slice C23 rp.length e23] rfl rfl rfl rfl rfl ?_; clear HS; intro w1 HS; have f1_ := HS.out.c 6 0 (v := .int .i64 da) rfl rfl; have f2_ := HS.out.c 6 1 (v := .int .i64 na) rfl rfl; have f3_ := HS.out.c 6 2 (v := .slice C20 p.length e20) rfl rfl) | (go_at_call 8; refine (got (implReversalOf da na C20 e20 p _ (HS.out.reads 7 rfl) (HS.out.cap 7 rfl) HBP.out) HRP.out).mono ?_; rintro e_ w1 ⟨C24, e24, rfl, hs⟩; replace HS := sN1 HS hs; clear hs f1_ f2_ f3_) | ((with_reducible refine gate_dst (N := 33) rfl ?_); refine bxL 26 #[(.int .i64 0), (.int .i64 0), (.slice none 0 0)] HS ?_; clear HS; intro g_se w1 hg_se HS) | ((with_reducible refine gate_store (t := 26) (p := 33) rfl ?_); refine stL HS 0 0 #[.int .i64 da, .int .i64 na, .slice C24 rp.length e24] rfl rfl rfl rfl rfl ?_; clear HS; intro w1 HS; have f1_ := HS.out.c 2 0 (v := .int .i64 da) rfl rfl; have f2_ := HS.out.c 2 1 (v := .int .i64 na) rfl rfl; have f3_ := HS.out.c 2 2 (v := .slice C23 rp.length e23) rfl rfl; have f4_ := HS.out.c 0 0 (v := .int .i64 da) rfl rfl; have f5_ := HS.out.c 0 1 (v := .int .i64 na) rfl rfl; have f6_ := HS.out.c 0 2 (v := .slice C24 rp.length e24) rfl rfl) | (go_at_call 10; refine (lawSeries9 da na C23 C24 e23 e24 rp _ (HS.out.reads 3 rfl) (HS.out.reads 1 rfl) (bnd_iff.1 HBRP.out).1).mono ?_; rintro e_ w1 ⟨rfl, hb⟩; replace HS := sB HS hb; clear hb f1_ f2_ f3_ f4_ f5_ f6_))
            have f1_ := HS.out.c 26 0 (v := .int .i64 0) rfl rfl
            have f2_ := HS.out.c 26 1 (v := .int .i64 0) rfl rfl
            have f3_ := HS.out.c 26 2 (v := .slice C1 ([] : Ts).length e1) rfl rfl
            go_wp2_with (first | (go_at_call 19; refine (lawNone9 _ C1 e1).mono ?_; rintro e_ w1 ⟨rfl, hb⟩; replace HS := sB HS hb; clear hb f1_ f2_ f3_))
            go_ret
            exact ⟨rfl, (HS.out.sel [] (by decide)).below⟩
          · have HQ := Aside0.mk hq
            have hcq0 : (cq == 0) = false := by simpa using hcq
            clear hq hcq HMR
            have f1_ := HS.out.c 1 0 (v := .int .i64 da) rfl rfl
            have f2_ := HS.out.c 1 1 (v := .int .i64 na) rfl rfl
            have f3_ := HS.out.c 1 2 (v := .slice Ba la.length ma) rfl rfl
            have f4_ := HS.out.c 0 0 (v := .int .i64 da) rfl rfl
            have f5_ := HS.out.c 0 1 (v := .int .i64 na) rfl rfl
            have f6_ := HS.out.c 0 2 (v := .slice Bb lb.length mb) rfl rfl
            have tk11_ : True := trivial
            have tk12_ : True := trivial
            have tk13_ : True := trivial
            go_upto_region 37 with (first | (go_at_call 18; clear tk11_; refine (got (implMultiplySeries da na Ba ma la da na Bb mb lb _ (HS.out.reads 2 rfl) (HS.out.cap 2 rfl) HBA.out (HS.out.reads 3 rfl) (HS.out.cap 3 rfl) HBB.out) HE.out).mono ?_; rintro e_ w1 ⟨C25, e25, rfl, hs⟩; replace HS := sN1 HS hs; clear hs f1_ f2_ f3_ f4_ f5_ f6_) | ((with_reducible refine gate_dst (N := 25) rfl ?_); refine bxL 26 #[(.int .i64 0), (.int .i64 0), (.slice none 0 0)] HS ?_; clear HS; intro g_pa w1 hg_pa HS) | ((with_reducible refine gate_store (t := 26) (p := 25) rfl ?_); refine stL HS 0 0 #[.int .i64 da, .int .i64 na, .slice C25 p.length e25] rfl rfl rfl rfl rfl ?_; clear HS; intro w1 HS; have f1_ := HS.out.c 3 0 (v := .int .i64 da) rfl rfl; have f2_ := HS.out.c 3 1 (v := .int .i64 na) rfl rfl; have f3_ := HS.out.c 3 2 (v := .slice Ba la.length ma) rfl rfl) | (go_at_call 8; clear tk12_; refine (got (implReversalOf da na Ba ma la _ (HS.out.reads 4 rfl) (HS.out.cap 4 rfl) HBA.out) HRA.out).mono ?_; rintro e_ w1 ⟨C26, e26, rfl, hs⟩; replace HS := sN1 HS hs; clear hs f1_ f2_ f3_) | ((with_reducible refine gate_dst (N := 27) rfl ?_); refine bxL 26 #[(.int .i64 0), (.int .i64 0), (.slice none 0 0)] HS ?_; clear HS; intro g_pb w1 hg_pb HS) | ((with_reducible refine gate_store (t := 26) (p := 27) rfl ?_); refine stL HS 0 0 #[.int .i64 da, .int .i64 na, .slice C26 ra.length e26] rfl rfl rfl rfl rfl ?_; clear HS; intro w1 HS; have f1_ := HS.out.c 4 0 (v := .int .i64 da) rfl rfl; have f2_ := HS.out.c 4 1 (v := .int .i64 na) rfl rfl; have f3_ := HS.out.c 4 2 (v := .slice Bb lb.length mb) rfl rfl) | (go_at_call 8; clear tk13_; refine (got (implReversalOf da na Bb mb lb _ (HS.out.reads 7 rfl) (HS.out.cap 7 rfl) HBB.out) HRB.out).mono ?_; rintro e_ w1 ⟨C27, e27, rfl, hs⟩; replace HS := sN1 HS hs; clear hs f1_ f2_ f3_) | ((with_reducible refine gate_dst (N := 29) rfl ?_); refine bxL 26 #[(.int .i64 0), (.int .i64 0), (.slice none 0 0)] HS ?_; clear HS; intro g_pr w1 hg_pr HS) | ((with_reducible refine gate_store (t := 26) (p := 29) rfl ?_); refine stL HS 0 0 #[.int .i64 da, .int .i64 na, .slice C27 rb.length e27] rfl rfl rfl rfl rfl ?_; clear HS; intro w1 HS; have f1_ := HS.out.c 0 0 (v := .int .i64 da) rfl rfl; have f2_ := HS.out.c 0 1 (v := .int .i64 na) rfl rfl; have f3_ := HS.out.c 0 2 (v := .slice C27 rb.length e27) rfl rfl; have f4_ := HS.out.c 2 0 (v := .int .i64 da) rfl rfl; have f5_ := HS.out.c 2 1 (v := .int .i64 na) rfl rfl; have f6_ := HS.out.c 2 2 (v := .slice C26 ra.length e26) rfl rfl) | (go_at_call 18; refine (got (implMultiplySeries da na C27 e27 rb da na C26 e26 ra _ (HS.out.reads 1 rfl) (HS.out.cap 1 rfl) HBRB.out (HS.out.reads 3 rfl) (HS.out.cap 3 rfl) HBRA.out) HQ.out).mono ?_; rintro e_ w1 ⟨C28, e28, rfl, hs⟩; replace HS := sN1 HS hs; clear hs f1_ f2_ f3_ f4_ f5_ f6_) | ((with_reducible refine gate_dst (N := 31) rfl ?_); refine bxL 26 #[(.int .i64 0), (.int .i64 0), (.slice none 0 0)] HS ?_; clear HS; intro g_fi w1 hg_fi HS) | ((with_reducible refine gate_store (t := 26) (p := 31) rfl ?_); refine stL HS 0 0 #[.int .i64 0, .int .i64 0, .slice C28 ([] : Ts).length e28] rfl rfl rfl rfl rfl ?_; clear HS; intro w1 HS; have f1_ := HS.out.c 6 0 (v := .int .i64 da) rfl rfl; have f2_ := HS.out.c 6 1 (v := .int .i64 na) rfl rfl; have f3_ := HS.out.c 6 2 (v := .slice C25 p.length e25) rfl rfl) | (go_at_call 8; refine (got (implReversalOf da na C25 e25 p _ (HS.out.reads 7 rfl) (HS.out.cap 7 rfl) HBP.out) HRP.out).mono ?_; rintro e_ w1 ⟨C29, e29, rfl, hs⟩; replace HS := sN1 HS hs; clear hs f1_ f2_ f3_) | ((with_reducible refine gate_dst (N := 33) rfl ?_); refine bxL 26 #[(.int .i64 0), (.int .i64 0), (.slice none 0 0)] HS ?_; clear HS; intro g_se w1 hg_se HS) | ((with_reducible refine gate_store (t := 26) (p := 33) rfl ?_); refine stL HS 0 0 #[.int .i64 da, .int .i64 na, .slice C29 rp.length e29] rfl rfl rfl rfl rfl ?_; clear HS; intro w1 HS))
            have f1_ := HS.out.c 26 0 (v := .int .i64 0) rfl rfl
            have f2_ := HS.out.c 26 1 (v := .int .i64 0) rfl rfl
            have f3_ := HS.out.c 26 2 (v := .slice C1 ([] : Ts).length e1) rfl rfl
            go_wp2_with (first | (go_at_call 19; refine (lawNone9 _ C1 e1).mono ?_; rintro e_ w1 ⟨rfl, hb⟩; replace HS := sB HS hb; clear hb f1_ f2_ f3_))
            go_ret
            exact ⟨rfl, (HS.out.sel [] (by decide)).below⟩
        · have HE := Aside0.mk he
          have hcm0 : (cm == 0) = false := by simpa using hcm
          have HBA := Aside0.mk hoka.1
          have HBB := Aside0.mk hokb.1
          clear he hcm
          have f1_ := HS.out.c 1 0 (v := .int .i64 da) rfl rfl
          have f2_ := HS.out.c 1 1 (v := .int .i64 na) rfl rfl
          have f3_ := HS.out.c 1 2 (v := .slice Ba la.length ma) rfl rfl
          have f4_ := HS.out.c 0 0 (v := .int .i64 db) rfl rfl
          have f5_ := HS.out.c 0 1 (v := .int .i64 nb) rfl rfl
          have f6_ := HS.out.c 0 2 (v := .slice Bb lb.length mb) rfl rfl
          go_upto_region 37 with (first | (go_at_call 18; refine (got (implMultiplySeries da na Ba ma la db nb Bb mb lb _ (HS.out.reads 2 rfl) (HS.out.cap 2 rfl) HBA.out (HS.out.reads 3 rfl) (HS.out.cap 3 rfl) HBB.out) HE.out).mono ?_; rintro e_ w1 ⟨C30, e30, rfl, hs⟩; replace HS := sN1 HS hs; clear hs f1_ f2_ f3_ f4_ f5_ f6_) | ((with_reducible refine gate_dst (N := 25) rfl ?_); refine bxL 26 #[(.int .i64 0), (.int .i64 0), (.slice none 0 0)] HS ?_; clear HS; intro g_pa w1 hg_pa HS) | ((with_reducible refine gate_store (t := 26) (p := 25) rfl ?_); refine stL HS 0 0 #[.int .i64 0, .int .i64 0, .slice C30 ([] : Ts).length e30] rfl rfl rfl rfl rfl ?_; clear HS; intro w1 HS))
          have f1_ := HS.out.c 18 0 (v := .int .i64 0) rfl rfl
          have f2_ := HS.out.c 18 1 (v := .int .i64 0) rfl rfl
          have f3_ := HS.out.c 18 2 (v := .slice C1 ([] : Ts).length e1) rfl rfl
          go_wp2_with (first | (go_at_call 19; refine (lawNone9 _ C1 e1).mono ?_; rintro e_ w1 ⟨rfl, hb⟩; replace HS := sB HS hb; clear hb f1_ f2_ f3_))
          go_ret
          exact ⟨rfl, (HS.out.sel [] (by decide)).below⟩
    | true =>
      have HRX := Aside0.mk (revR_yes (b := false) hx)
      have HAX := Aside0.mk (revR_yes (b := true) hx)
      have HPR := Aside0.mk (isS_bnd' (rev_isS false hx))
      have HPA := Aside0.mk (isS_bnd' (rev_isS true hx))
      have HBR := Aside0.mk (revR_back false hx)
      have HBA2 := Aside0.mk (revR_back true hx)
      have HLR := revS_length false hx
      obtain ⟨rx, erx⟩ : ∃ z, z = tabT dx.toNat nx.toNat (revF false lx) := ⟨_, rfl⟩
      obtain ⟨ax, eax⟩ : ∃ z, z = tabT dx.toNat nx.toNat (revF true lx) := ⟨_, rfl⟩
      rw [← erx] at HRX HPR HBR HLR
      rw [← eax] at HAX HPA HBA2
      have HLI : (rx.length == lx.length) = true := by rw [HLR]; simp
      have HL2 : ((rx.length : Int) == (lx.length : Int)) = true := by rw [HLR]; simp
      clear erx eax HLR hx
      have f1_ := HS.out.c 0 0 (v := .int .i64 dx) rfl rfl
      have f2_ := HS.out.c 0 1 (v := .int .i64 nx) rfl rfl
      have f3_ := HS.out.c 0 2 (v := .slice Bx lx.length mx) rfl rfl
      have tk14_ : True := trivial
      go_upto_region 13 with (first | (go_at_call 8; refine (got (implReversalOf dx nx Bx mx lx _ (HS.out.reads 1 rfl) (HS.out.cap 1 rfl) HBX.out) HRX.out).mono ?_; rintro e_ w1 ⟨C31, e31, rfl, hs⟩; replace HS := sN1 HS hs; clear hs f1_ f2_ f3_) | ((with_reducible refine gate_dst (N := 4) rfl ?_); refine bxL 26 #[(.int .i64 0), (.int .i64 0), (.slice none 0 0)] HS ?_; clear HS; intro g_r1 w1 hg_r1 HS) | ((with_reducible refine gate_store (t := 26) (p := 4) rfl ?_); refine stL HS 0 0 #[.int .i64 dx, .int .i64 nx, .slice C31 rx.length e31] rfl rfl rfl rfl rfl ?_; clear HS; intro w1 HS; have f1_ := HS.out.c 2 0 (v := .int .i64 dx) rfl rfl; have f2_ := HS.out.c 2 1 (v := .int .i64 nx) rfl rfl; have f3_ := HS.out.c 2 2 (v := .slice Bx lx.length mx) rfl rfl) | (go_at_call 9; refine (got (specReversalOf dx nx Bx mx lx _ (HS.out.reads 3 rfl) (HS.out.cap 3 rfl) HBX.out) HRX.out).mono ?_; rintro e_ w1 ⟨C32, e32, rfl, hs⟩; replace HS := sN1 HS hs; clear hs f1_ f2_ f3_) | ((with_reducible refine gate_dst (N := 6) rfl ?_); refine bxL 26 #[(.int .i64 0), (.int .i64 0), (.slice none 0 0)] HS ?_; clear HS; intro g_r2 w1 hg_r2 HS) | ((with_reducible refine gate_store (t := 26) (p := 6) rfl ?_); refine stL HS 0 0 #[.int .i64 dx, .int .i64 nx, .slice C32 rx.length e32] rfl rfl rfl rfl rfl ?_; clear HS; intro w1 HS; have f1_ := HS.out.c 2 0 (v := .int .i64 dx) rfl rfl; have f2_ := HS.out.c 2 1 (v := .int .i64 nx) rfl rfl; have f3_ := HS.out.c 2 2 (v := .slice C31 rx.length e31) rfl rfl; have f4_ := HS.out.c 0 0 (v := .int .i64 dx) rfl rfl; have f5_ := HS.out.c 0 1 (v := .int .i64 nx) rfl rfl; have f6_ := HS.out.c 0 2 (v := .slice C32 rx.length e32) rfl rfl) | (go_at_call 10; clear tk14_; refine (lawSeries9 dx nx C31 C32 e31 e32 rx _ (HS.out.reads 3 rfl) (HS.out.reads 1 rfl) (bnd_iff.1 HPR.out).1).mono ?_; rintro e_ w1 ⟨rfl, hb⟩; replace HS := sB HS hb; clear hb f1_ f2_ f3_ f4_ f5_ f6_; have f1_ := HS.out.c 4 0 (v := .int .i64 dx) rfl rfl; have f2_ := HS.out.c 4 1 (v := .int .i64 nx) rfl rfl; have f3_ := HS.out.c 4 2 (v := .slice Bx lx.length mx) rfl rfl) | (go_at_call 11; refine (got (implAntipodeOf dx nx Bx mx lx _ (HS.out.reads 5 rfl) (HS.out.cap 5 rfl) HBX.out) HAX.out).mono ?_; rintro e_ w1 ⟨C33, e33, rfl, hs⟩; replace HS := sN1 HS hs; clear hs f1_ f2_ f3_) | ((with_reducible refine gate_dst (N := 8) rfl ?_); refine bxL 26 #[(.int .i64 0), (.int .i64 0), (.slice none 0 0)] HS ?_; clear HS; intro g_a1 w1 hg_a1 HS) | ((with_reducible refine gate_store (t := 26) (p := 8) rfl ?_); refine stL HS 0 0 #[.int .i64 dx, .int .i64 nx, .slice C33 ax.length e33] rfl rfl rfl rfl rfl ?_; clear HS; intro w1 HS; have f1_ := HS.out.c 6 0 (v := .int .i64 dx) rfl rfl; have f2_ := HS.out.c 6 1 (v := .int .i64 nx) rfl rfl; have f3_ := HS.out.c 6 2 (v := .slice Bx lx.length mx) rfl rfl) | (go_at_call 12; refine (got (specAntipodeOf dx nx Bx mx lx _ (HS.out.reads 7 rfl) (HS.out.cap 7 rfl) HBX.out) HAX.out).mono ?_; rintro e_ w1 ⟨C34, e34, rfl, hs⟩; replace HS := sN1 HS hs; clear hs f1_ f2_ f3_) | ((with_reducible refine gate_dst (N := 10) rfl ?_); refine bxL 26 #[(.int .i64 0), (.int .i64 0), (.slice none 0 0)] HS ?_; clear HS; intro g_a2 w1 hg_a2 HS) | ((with_reducible refine gate_store (t := 26) (p := 10) rfl ?_); refine stL HS 0 0 #[.int .i64 dx, .int .i64 nx, .slice C34 ax.length e34] rfl rfl rfl rfl rfl ?_; clear HS; intro w1 HS; have f1_ := HS.out.c 2 0 (v := .int .i64 dx) rfl rfl; have f2_ := HS.out.c 2 1 (v := .int .i64 nx) rfl rfl; have f3_ := HS.out.c 2 2 (v := .slice C33 ax.length e33) rfl rfl; have f4_ := HS.out.c 0 0 (v := .int .i64 dx) rfl rfl; have f5_ := HS.out.c 0 1 (v := .int .i64 nx) rfl rfl; have f6_ := HS.out.c 0 2 (v := .slice C34 ax.length e34) rfl rfl) | (go_at_call 10; refine (lawSeries9 dx nx C33 C34 e33 e34 ax _ (HS.out.reads 3 rfl) (HS.out.reads 1 rfl) (bnd_iff.1 HPA.out).1).mono ?_; rintro e_ w1 ⟨rfl, hb⟩; replace HS := sB HS hb; clear hb f1_ f2_ f3_ f4_ f5_ f6_) | (go_at_call 13; refine (specDrawTruncateSeries A c xs _ (HX.out.old HS.out)).mono ?_; rintro e_ w1 ⟨dv, nv, Bv, mv, lv, kv, rfl, hbv, hokv, hkv, hs⟩; replace HS := sN1 HS hs; clear hs) | ((with_reducible refine gate_dst (N := 12) rfl ?_); refine bxL 26 #[(.int .i64 0), (.int .i64 0), (.slice none 0 0)] HS ?_; clear HS; intro g_y w1 hg_y HS) | ((with_reducible refine gate_store (t := 26) (p := 12) rfl ?_); refine stL HS 0 0 #[.int .i64 dv, .int .i64 nv, .slice Bv lv.length mv] rfl rfl rfl rfl rfl ?_; clear HS; intro w1 HS))
      have HBY := Aside0.mk hokv.1
      rcases truncR_cases dv nv lv kv with ⟨hY, he⟩ | ⟨ct, hct, he⟩
      · have HE := Aside0.mk he
        have HT := Aside0.mk (fun t (ht : t ∈ lv.filter (upLen kv)) => coef_at hY ht)
        have hfl : (lv.filter (upLen kv)).length ≤ 1048576 := Nat.le_trans (List.length_filter_le _ _) (bnd_iff.1 HBY.out).1
        obtain ⟨p, ep⟩ : ∃ z, z = lv.filter (upLen kv) := ⟨_, rfl⟩
        rw [← ep] at HE HT hfl
        have HFL := Aside0.mk hfl
        clear ep hY he hfl
        have f1_ := HS.out.c 0 0 (v := .int .i64 dv) rfl rfl
        have f2_ := HS.out.c 0 1 (v := .int .i64 nv) rfl rfl
        have f3_ := HS.out.c 0 2 (v := .slice Bv lv.length mv) rfl rfl
        have tk15_ : True := trivial
        go_wp2_with (first | (go_at_call 14; refine (got (implTruncateSeries dv nv Bv mv lv kv _ (HS.out.reads 1 rfl) (HS.out.cap 1 rfl) HBY.out) HE.out).mono ?_; rintro e_ w1 ⟨C35, e35, rfl, hs⟩; replace HS := sN1 HS hs; clear hs f1_ f2_ f3_) | ((with_reducible refine gate_dst (N := 14) rfl ?_); refine bxL 26 #[(.int .i64 0), (.int .i64 0), (.slice none 0 0)] HS ?_; clear HS; intro g_sh w1 hg_sh HS) | ((with_reducible refine gate_store (t := 26) (p := 14) rfl ?_); refine stL HS 0 0 #[.int .i64 dv, .int .i64 kv, .slice C35 p.length e35] rfl rfl rfl rfl rfl ?_; clear HS; intro w1 HS; have f1_ := HS.out.c 2 0 (v := .int .i64 dv) rfl rfl; have f2_ := HS.out.c 2 1 (v := .int .i64 nv) rfl rfl; have f3_ := HS.out.c 2 2 (v := .slice Bv lv.length mv) rfl rfl) | (go_at_call 15; refine (got (specTruncateSeries dv nv Bv mv lv kv _ (HS.out.reads 3 rfl) (HS.out.cap 3 rfl) HBY.out) HE.out).mono ?_; rintro e_ w1 ⟨C36, e36, rfl, hs⟩; replace HS := sN1 HS hs; clear hs f1_ f2_ f3_) | ((with_reducible refine gate_dst (N := 16) rfl ?_); refine bxL 26 #[(.int .i64 0), (.int .i64 0), (.slice none 0 0)] HS ?_; clear HS; intro g_dt w1 hg_dt HS) | ((with_reducible refine gate_store (t := 26) (p := 16) rfl ?_); refine stL HS 0 0 #[.int .i64 dv, .int .i64 kv, .slice C36 p.length e36] rfl rfl rfl rfl rfl ?_; clear HS; intro w1 HS; have f1_ := HS.out.c 2 0 (v := .int .i64 dv) rfl rfl; have f2_ := HS.out.c 2 1 (v := .int .i64 kv) rfl rfl; have f3_ := HS.out.c 2 2 (v := .slice C35 p.length e35) rfl rfl; have f4_ := HS.out.c 0 0 (v := .int .i64 dv) rfl rfl; have f5_ := HS.out.c 0 1 (v := .int .i64 kv) rfl rfl; have f6_ := HS.out.c 0 2 (v := .slice C36 p.length e36) rfl rfl) | (go_at_call 10; clear tk15_; refine (lawSeries9 dv kv C35 C36 e35 e36 p _ (HS.out.reads 3 rfl) (HS.out.reads 1 rfl) HFL.out).mono ?_; rintro e_ w1 ⟨rfl, hb⟩; replace HS := sB HS hb; clear hb f1_ f2_ f3_ f4_ f5_ f6_; have f1_ := HS.out.c 8 0 (v := .int .i64 dx) rfl rfl; have f2_ := HS.out.c 8 1 (v := .int .i64 nx) rfl rfl; have f3_ := HS.out.c 8 2 (v := .slice C33 ax.length e33) rfl rfl) | (go_at_call 11; refine (got (implAntipodeOf dx nx C33 e33 ax _ (HS.out.reads 9 rfl) (HS.out.cap 9 rfl) HPA.out) HBA2.out).mono ?_; rintro e_ w1 ⟨C37, e37, rfl, hs⟩; replace HS := sN1 HS hs; clear hs f1_ f2_ f3_) | ((with_reducible refine gate_dst (N := 18) rfl ?_); refine bxL 26 #[(.int .i64 0), (.int .i64 0), (.slice none 0 0)] HS ?_; clear HS; intro g_an2 w1 hg_an2 HS) | ((with_reducible refine gate_store (t := 26) (p := 18) rfl ?_); refine stL HS 0 0 #[.int .i64 dx, .int .i64 nx, .slice C37 lx.length e37] rfl rfl rfl rfl rfl ?_; clear HS; intro w1 HS; have f1_ := HS.out.c 0 0 (v := .int .i64 dx) rfl rfl; have f2_ := HS.out.c 0 1 (v := .int .i64 nx) rfl rfl; have f3_ := HS.out.c 0 2 (v := .slice C37 lx.length e37) rfl rfl; have f4_ := HS.out.c 16 0 (v := .int .i64 dx) rfl rfl; have f5_ := HS.out.c 16 1 (v := .int .i64 nx) rfl rfl; have f6_ := HS.out.c 16 2 (v := .slice Bx lx.length mx) rfl rfl) | (go_at_call 10; refine (lawSeries9 dx nx C37 Bx e37 mx lx _ (HS.out.reads 1 rfl) (HS.out.reads 17 rfl) (bnd_iff.1 HBX.out).1).mono ?_; rintro e_ w1 ⟨rfl, hb⟩; replace HS := sB HS hb; clear hb f1_ f2_ f3_ f4_ f5_ f6_))
        have hl9 : p.length ≤ 9223372036854775807 := by have := HFL.out; omega
        go_loopw [20] (fun v w' => ∃ i : Nat, v = .int .i64 (i : Int) ∧ i ≤ p.length ∧ Aside0 (Mod w w' No [bx g_an2 26 #[.int .i64 dx, .int .i64 nx, .slice C37 lx.length e37], rowT C37 e37 lx, bx g_dt 26 #[.int .i64 dv, .int .i64 kv, .slice C36 p.length e36], rowT C36 e36 p, bx g_sh 26 #[.int .i64 dv, .int .i64 kv, .slice C35 p.length e35], rowT C35 e35 p, bx g_y 26 #[.int .i64 dv, .int .i64 nv, .slice Bv lv.length mv], rowT Bv mv lv, bx g_a2 26 #[.int .i64 dx, .int .i64 nx, .slice C34 ax.length e34], rowT C34 e34 ax, bx g_a1 26 #[.int .i64 dx, .int .i64 nx, .slice C33 ax.length e33], rowT C33 e33 ax, bx g_r2 26 #[.int .i64 dx, .int .i64 nx, .slice C32 rx.length e32], rowT C32 e32 rx, bx g_r1 26 #[.int .i64 dx, .int .i64 nx, .slice C31 rx.length e31], rowT C31 e31 rx, bx g_x 26 #[.int .i64 dx, .int .i64 nx, .slice Bx lx.length mx], rowT Bx mx lx])) (fun v _ => p.length - (intOf v).toNat)
        case atStart => exact ⟨0, rfl, Nat.zero_le _, HS⟩
        case round =>
          clear HS
          obtain ⟨i, rfl, hi, HS⟩ := hrel
          by_cases hlt : i < p.length
          · obtain ⟨t, ht⟩ : ∃ t, p[i]? = some t := ⟨_, List.getElem?_eq_getElem hlt⟩
            obtain ⟨hq, hz⟩ := HT.out t (List.mem_of_getElem? ht)
            have HE1 := Aside0.mk ht
            have HQ := Aside0.mk hq
            have hz6 : t.1.size ≤ 1048576 := by omega
            clear ht hq hz
            obtain ⟨ad, ea⟩ := row_adr (HS.out.reads 5 rfl) hlt
            cases ea
            have hi1 : (0 : Int) ≤ i := by omega
            have hi2 : (i : Int) < p.length := by omega
            have f1_ := HS.out.c 4 2 (v := .slice (some ad) p.length e35) rfl rfl
            go_wp2
            clear f1_
            replace HS := sD HS
            apply region_told ((fun (A0_ : Nat → Act) (a' : Act) (w' : World) => ∃ (g_va : Nat), a' = A0_ g_va ∧ Aside0 (Mod w w' No [bx g_va 34 #[.int .i64 t.2.1, .int .i64 t.2.2], bx g_an2 26 #[.int .i64 dx, .int .i64 nx, .slice C37 lx.length e37], rowT C37 e37 lx, bx g_dt 26 #[.int .i64 dv, .int .i64 kv, .slice C36 p.length e36], rowT C36 e36 p, bx g_sh 26 #[.int .i64 dv, .int .i64 kv, .slice (some ad) p.length e35], rowT (some ad) e35 p, bx g_y 26 #[.int .i64 dv, .int .i64 nv, .slice Bv lv.length mv], rowT Bv mv lv, bx g_a2 26 #[.int .i64 dx, .int .i64 nx, .slice C34 ax.length e34], rowT C34 e34 ax, bx g_a1 26 #[.int .i64 dx, .int .i64 nx, .slice C33 ax.length e33], rowT C33 e33 ax, bx g_r2 26 #[.int .i64 dx, .int .i64 nx, .slice C32 rx.length e32], rowT C32 e32 rx, bx g_r1 26 #[.int .i64 dx, .int .i64 nx, .slice C31 rx.length e31], rowT C31 e31 rx, bx g_x 26 #[.int .i64 dx, .int .i64 nx, .slice Bx lx.length mx], rowT Bx mx lx])) _)
            case h1 =>
              refine ps (.p 1 (.p 3 (.t 0 (.t 2 (.p 4 (.p 5 (.t 6 (.two 7 11 (.p 8 (.p 9 (.p 10 (.e 11 (.d 12 (.p 13 .done)))))) (.e 7 (.p 8 (.p 9 (.p 10 (.d 12 (.p 13 .done)))))))))))))) (fun w' => w'.cell? ⟨g_y, 0, none⟩ = some (.int .i64 dv) ∧ w'.cell? ⟨g_y, 1, none⟩ = some (.int .i64 nv) ∧ w'.cell? ⟨g_y, 2, none⟩ = some (.slice Bv lv.length mv) ∧ w'.cell? ⟨g_sh, 2, none⟩ = some (.slice (some ad) p.length e35) ∧ w'.cell? (ad.add (i * 3)) = some (.string t.1)) [12] ⟨HS.out.c 6 0 (v := .int .i64 dv) rfl rfl, HS.out.c 6 1 (v := .int .i64 nv) rfl rfl, HS.out.c 6 2 (v := .slice Bv lv.length mv) rfl rfl, HS.out.c 4 2 (v := .slice (some ad) p.length e35) rfl rfl, (HS.out.tmg 5 rfl HE1.out).1⟩ (fun hHeld => ?_)
              repeat (first | ((with_reducible refine gate_p ?_); refine rp rfl rfl ?_) | ((with_reducible refine gate_t ?_); refine rt rfl rfl hHeld ?_))
              refine run_two ?_ ?_
              · skip
                refine run_e rfl (fun K hK => ?_)
                refine gc Try.func16 (gotF (implCoefficientOf dv nv Bv mv lv t.1 _ (HS.out.reads 7 rfl) (HS.out.cap 7 rfl) HBY.out hz6) HQ.out) rfl rfl ?_
                rintro e_ w1 ⟨rfl, hb⟩
                refine ⟨_, rfl, ?_⟩
                replace HS := sB HS hb
                refine ge hK ⟨HS.out.c 6 0 (v := .int .i64 dv) rfl rfl, HS.out.c 6 1 (v := .int .i64 nv) rfl rfl, HS.out.c 6 2 (v := .slice Bv lv.length mv) rfl rfl, HS.out.c 4 2 (v := .slice (some ad) p.length e35) rfl rfl, (HS.out.tmg 5 rfl HE1.out).1⟩ (fun hHeld => ?_)
                repeat (first | ((with_reducible refine gate_p ?_); refine rp rfl rfl ?_) | ((with_reducible refine gate_t ?_); refine rt rfl rfl hHeld ?_))
                refine run_e rfl (fun K hK => ?_)
                refine bx1 34 #[(.int .i64 0), (.int .i64 0)] HS ?_
                intro g_va w1 hg_va HS
                refine ge hK ⟨HS.out.c 7 0 (v := .int .i64 dv) rfl rfl, HS.out.c 7 1 (v := .int .i64 nv) rfl rfl, HS.out.c 7 2 (v := .slice Bv lv.length mv) rfl rfl, HS.out.c 5 2 (v := .slice (some ad) p.length e35) rfl rfl, (HS.out.tmg 6 rfl HE1.out).1⟩ (fun hHeld => ?_)
                refine run_d rfl (fun K hK => ?_)
                refine st1 HS 0 0 #[.int .i64 t.2.1, .int .i64 t.2.2] rfl rfl rfl rfl rfl ?_
                intro w1 HS
                refine goD hK rfl ?_
                repeat (first | ((with_reducible refine gate_p ?_); refine rp rfl rfl ?_) | ((with_reducible refine gate_t ?_); refine rt rfl rfl hHeld ?_))
                refine run_done ?_
                exact ⟨g_va, rfl, HS⟩
              · skip
                refine run_e rfl (fun K hK => ?_)
                refine bx1 34 #[(.int .i64 0), (.int .i64 0)] HS ?_
                intro g_va w1 hg_va HS
                refine ge hK ⟨HS.out.c 7 0 (v := .int .i64 dv) rfl rfl, HS.out.c 7 1 (v := .int .i64 nv) rfl rfl, HS.out.c 7 2 (v := .slice Bv lv.length mv) rfl rfl, HS.out.c 5 2 (v := .slice (some ad) p.length e35) rfl rfl, (HS.out.tmg 6 rfl HE1.out).1⟩ (fun hHeld => ?_)
                refine run_e rfl (fun K hK => ?_)
                refine gc Try.func16 (gotF (implCoefficientOf dv nv Bv mv lv t.1 _ (HS.out.reads 8 rfl) (HS.out.cap 8 rfl) HBY.out hz6) HQ.out) rfl rfl ?_
                rintro e_ w1 ⟨rfl, hb⟩
                refine ⟨_, rfl, ?_⟩
                replace HS := sB HS hb
                refine ge hK ⟨HS.out.c 7 0 (v := .int .i64 dv) rfl rfl, HS.out.c 7 1 (v := .int .i64 nv) rfl rfl, HS.out.c 7 2 (v := .slice Bv lv.length mv) rfl rfl, HS.out.c 5 2 (v := .slice (some ad) p.length e35) rfl rfl, (HS.out.tmg 6 rfl HE1.out).1⟩ (fun hHeld => ?_)
                repeat (first | ((with_reducible refine gate_p ?_); refine rp rfl rfl ?_) | ((with_reducible refine gate_t ?_); refine rt rfl rfl hHeld ?_))
                refine run_d rfl (fun K hK => ?_)
                refine st1 HS 0 0 #[.int .i64 t.2.1, .int .i64 t.2.2] rfl rfl rfl rfl rfl ?_
                intro w1 HS
                refine goD hK rfl ?_
                repeat (first | ((with_reducible refine gate_p ?_); refine rp rfl rfl ?_) | ((with_reducible refine gate_t ?_); refine rt rfl rfl hHeld ?_))
                refine run_done ?_
                have n_ := HS.out.sel [0, 1, 2, 3, 4, 5, 6, 7, 8, 9, 10, 11, 12, 13, 14, 15, 16, 17, 18] (by decide)
                simp only [List.filterMap_cons, List.filterMap_nil, List.getElem?_cons_zero, List.getElem?_cons_succ] at n_
                exact ⟨g_va, rfl, ⟨n_⟩⟩
            clear HS
            rintro a_ w1 ⟨g_va, rfl, HS⟩
            go_wp2
            replace HS := sD HS
            refine ps (.p 0 (.p 1 (.p 2 (.p 4 (.p 6 (.t 3 (.t 5 (.p 7 (.p 8 (.t 9 (.p 10 (.p 11 .done)))))))))))) (fun w' => w'.cell? ⟨g_va, 0, none⟩ = some (.int .i64 t.2.1) ∧ w'.cell? ⟨g_va, 1, none⟩ = some (.int .i64 t.2.2) ∧ w'.cell? ⟨g_sh, 2, none⟩ = some (.slice (some ad) p.length e35) ∧ w'.cell? ⟨(ad.add (i * 3)).block, (ad.add (i * 3)).off + 1, none⟩ = some (.int .i64 t.2.1) ∧ w'.cell? ⟨(ad.add (i * 3)).block, (ad.add (i * 3)).off + 1 + 1, none⟩ = some (.int .i64 t.2.2)) [] ⟨HS.out.c 0 0 (v := .int .i64 t.2.1) rfl rfl, HS.out.c 0 1 (v := .int .i64 t.2.2) rfl rfl, HS.out.c 5 2 (v := .slice (some ad) p.length e35) rfl rfl, (HS.out.tmg 6 rfl HE1.out).2.1, c2 ((HS.out.tmg 6 rfl HE1.out).2.2)⟩ (fun hHeld => ?_)
            repeat (first | ((with_reducible refine gate_p ?_); refine rp rfl rfl ?_) | ((with_reducible refine gate_t ?_); refine rt rfl rfl hHeld ?_))
            refine run_done ?_
            clear hHeld
            go_wp2
            replace HS : Aside0 (Mod _ _ _ [_, _, _, _, _, _, _, _, _, _, _, _, _, _, _, _, _, _]) := sX HS [1, 2, 3, 4, 5, 6, 7, 8, 9, 10, 11, 12, 13, 14, 15, 16, 17, 18]
            go_roundw
            case rel => exact ⟨i + 1, by go_num, by omega, HS⟩
            case measure => simp [intOf]; omega
          · have hlt2 : ¬ ((i : Int) < (p.length : Int)) := by omega
            have f1_ := HS.out.c 4 2 (v := .slice C35 p.length e35) rfl rfl
            go_upto_region 29 with (first | (go_at_call 17; refine (specDrawCommutatorOf A c xs _ (HX.out.old HS.out)).mono ?_; rintro e_ w1 ⟨da, na, Ba, ma, la, db, nb, Bb, mb, lb, rfl, hba, hbb, hoka, hokb, hs⟩; replace HS := sN2 HS hs; clear hs f1_) | ((with_reducible refine gate_dst (N := 23) rfl ?_); refine bxL 26 #[(.int .i64 0), (.int .i64 0), (.slice none 0 0)] HS ?_; clear HS; intro g_a w1 hg_a HS) | ((with_reducible refine gate_dst (N := 24) rfl ?_); refine bxL 26 #[(.int .i64 0), (.int .i64 0), (.slice none 0 0)] HS ?_; clear HS; intro g_b w1 hg_b HS) | ((with_reducible refine gate_store (t := 26) (p := 23) rfl ?_); refine stL HS 1 0 #[.int .i64 da, .int .i64 na, .slice Ba la.length ma] rfl rfl rfl rfl rfl ?_; clear HS; intro w1 HS) | ((with_reducible refine gate_store (t := 26) (p := 24) rfl ?_); refine stL HS 0 0 #[.int .i64 db, .int .i64 nb, .slice Bb lb.length mb] rfl rfl rfl rfl rfl ?_; clear HS; intro w1 HS))
            rcases mulR_cases da na la db nb lb with ⟨p, hA, hB, rfl, rfl, _, he, hP⟩ | ⟨cm, hcm, he⟩
            · have HE := Aside0.mk he
              have HBA := Aside0.mk (isS_bnd' hA)
              have HBB := Aside0.mk (isS_bnd' hB)
              have HBP := Aside0.mk (isS_bnd' hP)
              have HRA := Aside0.mk (revR_yes (b := false) hA)
              have HRB := Aside0.mk (revR_yes (b := false) hB)
              have HRP := Aside0.mk (revR_yes (b := false) hP)
              have HBRA := Aside0.mk (isS_bnd' (rev_isS false hA))
              have HBRB := Aside0.mk (isS_bnd' (rev_isS false hB))
              have HBRP := Aside0.mk (isS_bnd' (rev_isS false hP))
              have HMR := Aside0.mk (fun hk => mulR_rev he hk)
              obtain ⟨ra, era⟩ : ∃ z, z = tabT da.toNat na.toNat (revF false la) := ⟨_, rfl⟩
              obtain ⟨rb, erb⟩ : ∃ z, z = tabT da.toNat na.toNat (revF false lb) := ⟨_, rfl⟩
              obtain ⟨rp, erp⟩ : ∃ z, z = tabT da.toNat na.toNat (revF false p) := ⟨_, rfl⟩
              rw [← era] at HRA HBRA HMR
              rw [← erb] at HRB HBRB HMR
              rw [← erp] at HRP HBRP HMR
              clear era erb erp hA hB hP he
              rcases mulR_cases da na rb da na ra with ⟨q, _, _, _, _, _, hq, _⟩ | ⟨cq, hcq, hq⟩
              · have hrv := HMR.out (by rw [hq])
                have HQ := Aside0.mk hrv
                clear hq hrv HMR
                have f1_ := HS.out.c 1 0 (v := .int .i64 da) rfl rfl
                have f2_ := HS.out.c 1 1 (v := .int .i64 na) rfl rfl
                have f3_ := HS.out.c 1 2 (v := .slice Ba la.length ma) rfl rfl
                have f4_ := HS.out.c 0 0 (v := .int .i64 da) rfl rfl
                have f5_ := HS.out.c 0 1 (v := .int .i64 na) rfl rfl
                have f6_ := HS.out.c 0 2 (v := .slice Bb lb.length mb) rfl rfl
                have tk16_ : True := trivial
                have tk17_ : True := trivial
                have tk18_ : True := trivial
                go_upto_region 37 with (first | (go_at_call 18; clear tk16_; refine (got (implMultiplySeries da na Ba ma la da na Bb mb lb _ (HS.out.reads 2 rfl) (HS.out.cap 2 rfl) HBA.out (HS.out.reads 3 rfl) (HS.out.cap 3 rfl) HBB.out) HE.out).mono ?_; rintro e_ w1 ⟨C38, e38, rfl, hs⟩; replace HS := sN1 HS hs; clear hs f1_ f2_ f3_ f4_ f5_ f6_) | ((with_reducible refine gate_dst (N := 25) rfl ?_); refine bxL 26 #[(.int .i64 0), (.int .i64 0), (.slice none 0 0)] HS ?_; clear HS; intro g_pa w1 hg_pa HS) | ((with_reducible refine gate_store (t := 26) (p := 25) rfl ?_); refine stL HS 0 0 #[.int .i64 da, .int .i64 na, .slice C38 p.length e38] rfl rfl rfl rfl rfl ?_; clear HS; intro w1 HS; have f1_ := HS.out.c 3 0 (v := .int .i64 da) rfl rfl; have f2_ := HS.out.c 3 1 (v := .int .i64 na) rfl rfl; have f3_ := HS.out.c 3 2 (v := .slice Ba la.length ma) rfl rfl) | (go_at_call 8; clear tk17_; refine (got (implReversalOf da na Ba ma la _ (HS.out.reads 4 rfl) (HS.out.cap 4 rfl) HBA.out) HRA.out).mono ?_; rintro e_ w1 ⟨C39, e39, rfl, hs⟩; replace HS := sN1 HS hs; clear hs f1_ f2_ f3_) | ((with_reducible refine gate_dst (N := 27) rfl ?_); refine bxL 26 #[(.int .i64 0), (.int .i64 0), (.slice none 0 0)] HS ?_; clear HS; intro g_pb w1 hg_pb HS) | ((with_reducible refine gate_store (t := 26) (p := 27) rfl ?_); refine stL HS 0 0 #[.int .i64 da, .int .i64 na, .slice C39 ra.length e39] rfl rfl rfl rfl rfl ?_; clear HS; intro w1 HS; have f1_ := HS.out.c 4 0 (v := .int .i64 da) rfl rfl; have f2_ := HS.out.c 4 1 (v := .int .i64 na) rfl rfl; have f3_ := HS.out.c 4 2 (v := .slice Bb lb.length mb) rfl rfl) | (go_at_call 8; clear tk18_; refine (got (implReversalOf da na Bb mb lb _ (HS.out.reads 7 rfl) (HS.out.cap 7 rfl) HBB.out) HRB.out).mono ?_; rintro e_ w1 ⟨C40, e40, rfl, hs⟩; replace HS := sN1 HS hs; clear hs f1_ f2_ f3_) | ((with_reducible refine gate_dst (N := 29) rfl ?_); refine bxL 26 #[(.int .i64 0), (.int .i64 0), (.slice none 0 0)] HS ?_; clear HS; intro g_pr w1 hg_pr HS) | ((with_reducible refine gate_store (t := 26) (p := 29) rfl ?_); refine stL HS 0 0 #[.int .i64 da, .int .i64 na, .slice C40 rb.length e40] rfl rfl rfl rfl rfl ?_; clear HS; intro w1 HS; have f1_ := HS.out.c 0 0 (v := .int .i64 da) rfl rfl; have f2_ := HS.out.c 0 1 (v := .int .i64 na) rfl rfl; have f3_ := HS.out.c 0 2 (v := .slice C40 rb.length e40) rfl rfl; have f4_ := HS.out.c 2 0 (v := .int .i64 da) rfl rfl; have f5_ := HS.out.c 2 1 (v := .int .i64 na) rfl rfl; have f6_ := HS.out.c 2 2 (v := .slice C39 ra.length e39) rfl rfl) | (go_at_call 18; refine (got (implMultiplySeries da na C40 e40 rb da na C39 e39 ra _ (HS.out.reads 1 rfl) (HS.out.cap 1 rfl) HBRB.out (HS.out.reads 3 rfl) (HS.out.cap 3 rfl) HBRA.out) HQ.out).mono ?_; rintro e_ w1 ⟨C41, e41, rfl, hs⟩; replace HS := sN1 HS hs; clear hs f1_ f2_ f3_ f4_ f5_ f6_) | ((with_reducible refine gate_dst (N := 31) rfl ?_); refine bxL 26 #[(.int .i64 0), (.int .i64 0), (.slice none 0 0)] HS ?_; clear HS; intro g_fi w1 hg_fi HS) | ((with_reducible refine gate_store (t := 26) (p := 31) rfl ?_); refine stL HS 0 0 #[.int .i64 da, .int .i64 na, .slice C41 rp.length e41] rfl rfl rfl rfl rfl ?_; clear HS; intro w1 HS; have f1_ := HS.out.c 6 0 (v := .int .i64 da) rfl rfl; have f2_ := HS.out.c 6 1 (v := .int .i64 na) rfl rfl; have f3_ := HS.out.c 6 2 (v := .slice C38 p.length e38) rfl rfl) | (go_at_call 8; refine (got (implReversalOf da na C38 e38 p _ (HS.out.reads 7 rfl) (HS.out.cap 7 rfl) HBP.out) HRP.out).mono ?_; rintro e_ w1 ⟨C42, e42, rfl, hs⟩; replace HS := sN1 HS hs; clear hs f1_ f2_ f3_) | ((with_reducible refine gate_dst (N := 33) rfl ?_); refine bxL 26 #[(.int .i64 0), (.int .i64 0), (.slice none 0 0)] HS ?_; clear HS; intro g_se w1 hg_se HS) | ((with_reducible refine gate_store (t := 26) (p := 33) rfl ?_); refine stL HS 0 0 #[.int .i64 da, .int .i64 na, .slice C42 rp.length e42] rfl rfl rfl rfl rfl ?_; clear HS; intro w1 HS; have f1_ := HS.out.c 2 0 (v := .int .i64 da) rfl rfl; have f2_ := HS.out.c 2 1 (v := .int .i64 na) rfl rfl; have f3_ := HS.out.c 2 2 (v := .slice C41 rp.length e41) rfl rfl; have f4_ := HS.out.c 0 0 (v := .int .i64 da) rfl rfl; have f5_ := HS.out.c 0 1 (v := .int .i64 na) rfl rfl; have f6_ := HS.out.c 0 2 (v := .slice C42 rp.length e42) rfl rfl) | (go_at_call 10; refine (lawSeries9 da na C41 C42 e41 e42 rp _ (HS.out.reads 3 rfl) (HS.out.reads 1 rfl) (bnd_iff.1 HBRP.out).1).mono ?_; rintro e_ w1 ⟨rfl, hb⟩; replace HS := sB HS hb; clear hb f1_ f2_ f3_ f4_ f5_ f6_))
                have f1_ := HS.out.c 28 0 (v := .int .i64 dx) rfl rfl
                have f2_ := HS.out.c 28 1 (v := .int .i64 nx) rfl rfl
                have f3_ := HS.out.c 28 2 (v := .slice C31 rx.length e31) rfl rfl
                go_wp2_with (first | (go_at_call 8; refine (got (implReversalOf dx nx C31 e31 rx _ (HS.out.reads 29 rfl) (HS.out.cap 29 rfl) HPR.out) HBR.out).mono ?_; rintro e_ w1 ⟨C43, e43, rfl, hs⟩; replace HS := sN1 HS hs; clear hs f1_ f2_ f3_) | ((with_reducible refine gate_dst (N := 35) rfl ?_); refine bxL 26 #[(.int .i64 0), (.int .i64 0), (.slice none 0 0)] HS ?_; clear HS; intro g_rb w1 hg_rb HS) | ((with_reducible refine gate_store (t := 26) (p := 35) rfl ?_); refine stL HS 0 0 #[.int .i64 dx, .int .i64 nx, .slice C43 lx.length e43] rfl rfl rfl rfl rfl ?_; clear HS; intro w1 HS; have f1_ := HS.out.c 0 0 (v := .int .i64 dx) rfl rfl; have f2_ := HS.out.c 0 1 (v := .int .i64 nx) rfl rfl; have f3_ := HS.out.c 0 2 (v := .slice C43 lx.length e43) rfl rfl; have f4_ := HS.out.c 32 0 (v := .int .i64 dx) rfl rfl; have f5_ := HS.out.c 32 1 (v := .int .i64 nx) rfl rfl; have f6_ := HS.out.c 32 2 (v := .slice Bx lx.length mx) rfl rfl) | (go_at_call 10; refine (lawSeries9 dx nx C43 Bx e43 mx lx _ (HS.out.reads 1 rfl) (HS.out.reads 33 rfl) (bnd_iff.1 HBX.out).1).mono ?_; rintro e_ w1 ⟨rfl, hb⟩; replace HS := sB HS hb; clear hb f1_ f2_ f3_ f4_ f5_ f6_; have f1_ := HS.out.c 30 2 (v := .slice C31 rx.length e31) rfl rfl; have f2_ := HS.out.c 32 2 (v := .slice Bx lx.length mx) rfl rfl))
                go_ret
                exact ⟨rfl, (HS.out.sel [] (by decide)).below⟩
              · have HQ := Aside0.mk hq
                have hcq0 : (cq == 0) = false := by simpa using hcq
                clear hq hcq HMR
                have f1_ := HS.out.c 1 0 (v := .int .i64 da) rfl rfl
                have f2_ := HS.out.c 1 1 (v := .int .i64 na) rfl rfl
                have f3_ := HS.out.c 1 2 (v := .slice Ba la.length ma) rfl rfl
                have f4_ := HS.out.c 0 0 (v := .int .i64 da) rfl rfl
                have f5_ := HS.out.c 0 1 (v := .int .i64 na) rfl rfl
                have f6_ := HS.out.c 0 2 (v := .slice Bb lb.length mb) rfl rfl
                have tk19_ : True := trivial
                have tk20_ : True := trivial
                have tk21_ : True := trivial
                go_upto_region 37 with (first | (go_at_call 18; clear tk19_; refine (got (implMultiplySeries da na Ba ma la da na Bb mb lb _ (HS.out.reads 2 rfl) (HS.out.cap 2 rfl) HBA.out (HS.out.reads 3 rfl) (HS.out.cap 3 rfl) HBB.out) HE.out).mono ?_; rintro e_ w1 ⟨C44, e44, rfl, hs⟩; replace HS := sN1 HS hs; clear hs f1_ f2_ f3_ f4_ f5_ f6_) | ((with_reducible refine gate_dst (N := 25) rfl ?_); refine bxL 26 #[(.int .i64 0), (.int .i64 0), (.slice none 0 0)] HS ?_; clear HS; intro g_pa w1 hg_pa HS) | ((with_reducible refine gate_store (t := 26) (p := 25) rfl ?_); refine stL HS 0 0 #[.int .i64 da, .int .i64 na, .slice C44 p.length e44] rfl rfl rfl rfl rfl ?_; clear HS; intro w1 HS; have f1_ := HS.out.c 3 0 (v := .int .i64 da) rfl rfl; have f2_ := HS.out.c 3 1 (v := .int .i64 na) rfl rfl; have f3_ := HS.out.c 3 2 (v := .slice Ba la.length ma) rfl rfl) | (go_at_call 8; clear tk20_; refine (got (implReversalOf da na Ba ma la _ (HS.out.reads 4 rfl) (HS.out.cap 4 rfl) HBA.out) HRA.out).mono ?_; rintro e_ w1 ⟨C45, e45, rfl, hs⟩; replace HS := sN1 HS hs; clear hs f1_ f2_ f3_) | ((with_reducible refine gate_dst (N := 27) rfl ?_); refine bxL 26 #[(.int .i64 0), (.int .i64 0), (.slice none 0 0)] HS ?_; clear HS; intro g_pb w1 hg_pb HS) | ((with_reducible refine gate_store (t := 26) (p := 27) rfl ?_); refine stL HS 0 0 #[.int .i64 da, .int .i64 na, .slice C45 ra.length e45] rfl rfl rfl rfl rfl ?_; clear HS; intro w1 HS; have f1_ := HS.out.c 4 0 (v := .int .i64 da) rfl rfl; have f2_ := HS.out.c 4 1 (v := .int .i64 na) rfl rfl; have f3_ := HS.out.c 4 2 (v := .slice Bb lb.length mb) rfl rfl) | (go_at_call 8; clear tk21_; refine (got (implReversalOf da na Bb mb lb _ (HS.out.reads 7 rfl) (HS.out.cap 7 rfl) HBB.out) HRB.out).mono ?_; rintro e_ w1 ⟨C46, e46, rfl, hs⟩; replace HS := sN1 HS hs; clear hs f1_ f2_ f3_) | ((with_reducible refine gate_dst (N := 29) rfl ?_); refine bxL 26 #[(.int .i64 0), (.int .i64 0), (.slice none 0 0)] HS ?_; clear HS; intro g_pr w1 hg_pr HS) | ((with_reducible refine gate_store (t := 26) (p := 29) rfl ?_); refine stL HS 0 0 #[.int .i64 da, .int .i64 na, .slice C46 rb.length e46] rfl rfl rfl rfl rfl ?_; clear HS; intro w1 HS; have f1_ := HS.out.c 0 0 (v := .int .i64 da) rfl rfl; have f2_ := HS.out.c 0 1 (v := .int .i64 na) rfl rfl; have f3_ := HS.out.c 0 2 (v := .slice C46 rb.length e46) rfl rfl; have f4_ := HS.out.c 2 0 (v := .int .i64 da) rfl rfl; have f5_ := HS.out.c 2 1 (v := .int .i64 na) rfl rfl; have f6_ := HS.out.c 2 2 (v := .slice C45 ra.length e45) rfl rfl) | (go_at_call 18; refine (got (implMultiplySeries da na C46 e46 rb da na C45 e45 ra _ (HS.out.reads 1 rfl) (HS.out.cap 1 rfl) HBRB.out (HS.out.reads 3 rfl) (HS.out.cap 3 rfl) HBRA.out) HQ.out).mono ?_; rintro e_ w1 ⟨C47, e47, rfl, hs⟩; replace HS := sN1 HS hs; clear hs f1_ f2_ f3_ f4_ f5_ f6_) | ((with_reducible refine gate_dst (N := 31) rfl ?_); refine bxL 26 #[(.int .i64 0), (.int .i64 0), (.slice none 0 0)] HS ?_; clear HS; intro g_fi w1 hg_fi HS) | ((with_reducible refine gate_store (t := 26) (p := 31) rfl ?_); refine stL HS 0 0 #[.int .i64 0, .int .i64 0, .slice C47 ([] : Ts).length e47] rfl rfl rfl rfl rfl ?_; clear HS; intro w1 HS; have f1_ := HS.out.c 6 0 (v := .int .i64 da) rfl rfl; have f2_ := HS.out.c 6 1 (v := .int .i64 na) rfl rfl; have f3_ := HS.out.c 6 2 (v := .slice C44 p.length e44) rfl rfl) | (go_at_call 8; refine (got (implReversalOf da na C44 e44 p _ (HS.out.reads 7 rfl) (HS.out.cap 7 rfl) HBP.out) HRP.out).mono ?_; rintro e_ w1 ⟨C48, e48, rfl, hs⟩; replace HS := sN1 HS hs; clear hs f1_ f2_ f3_) | ((with_reducible refine gate_dst (N := 33) rfl ?_); refine bxL 26 #[(.int .i64 0), (.int .i64 0), (.slice none 0 0)] HS ?_; clear HS; intro g_se w1 hg_se HS) | ((with_reducible refine gate_store (t := 26) (p := 33) rfl ?_); refine stL HS 0 0 #[.int .i64 da, .int .i64 na, .slice C48 rp.length e48] rfl rfl rfl rfl rfl ?_; clear HS; intro w1 HS))
                have f1_ := HS.out.c 28 0 (v := .int .i64 dx) rfl rfl
                have f2_ := HS.out.c 28 1 (v := .int .i64 nx) rfl rfl
                have f3_ := HS.out.c 28 2 (v := .slice C31 rx.length e31) rfl rfl
                go_wp2_with (first | (go_at_call 8; refine (got (implReversalOf dx nx C31 e31 rx _ (HS.out.reads 29 rfl) (HS.out.cap 29 rfl) HPR.out) HBR.out).mono ?_; rintro e_ w1 ⟨C49, e49, rfl, hs⟩; replace HS := sN1 HS hs; clear hs f1_ f2_ f3_) | ((with_reducible refine gate_dst (N := 35) rfl ?_); refine bxL 26 #[(.int .i64 0), (.int .i64 0), (.slice none 0 0)] HS ?_; clear HS; intro g_rb w1 hg_rb HS) | ((with_reducible refine gate_store (t := 26) (p := 35) rfl ?_); refine stL HS 0 0 #[.int .i64 dx, .int .i64 nx, .slice C49 lx.length e49] rfl rfl rfl rfl rfl ?_; clear HS; intro w1 HS; have f1_ := HS.out.c 0 0 (v := .int .i64 dx) rfl rfl; have f2_ := HS.out.c 0 1 (v := .int .i64 nx) rfl rfl; have f3_ := HS.out.c 0 2 (v := .slice C49 lx.length e49) rfl rfl; have f4_ := HS.out.c 32 0 (v := .int .i64 dx) rfl rfl; have f5_ := HS.out.c 32 1 (v := .int .i64 nx) rfl rfl; have f6_ := HS.out.c 32 2 (v := .slice Bx lx.length mx) rfl rfl) | (go_at_call 10; refine (lawSeries9 dx nx C49 Bx e49 mx lx _ (HS.out.reads 1 rfl) (HS.out.reads 33 rfl) (bnd_iff.1 HBX.out).1).mono ?_; rintro e_ w1 ⟨rfl, hb⟩; replace HS := sB HS hb; clear hb f1_ f2_ f3_ f4_ f5_ f6_; have f1_ := HS.out.c 30 2 (v := .slice C31 rx.length e31) rfl rfl; have f2_ := HS.out.c 32 2 (v := .slice Bx lx.length mx) rfl rfl))
                go_ret
                exact ⟨rfl, (HS.out.sel [] (by decide)).below⟩
            · have HE := Aside0.mk he
              have hcm0 : (cm == 0) = false := by simpa using hcm
              have HBA := Aside0.mk hoka.1
              have HBB := Aside0.mk hokb.1
              clear he hcm
              have f1_ := HS.out.c 1 0 (v := .int .i64 da) rfl rfl
              have f2_ := HS.out.c 1 1 (v := .int .i64 na) rfl rfl
              have f3_ := HS.out.c 1 2 (v := .slice Ba la.length ma) rfl rfl
              have f4_ := HS.out.c 0 0 (v := .int .i64 db) rfl rfl
              have f5_ := HS.out.c 0 1 (v := .int .i64 nb) rfl rfl
              have f6_ := HS.out.c 0 2 (v := .slice Bb lb.length mb) rfl rfl
              go_upto_region 37 with (first | (go_at_call 18; refine (got (implMultiplySeries da na Ba ma la db nb Bb mb lb _ (HS.out.reads 2 rfl) (HS.out.cap 2 rfl) HBA.out (HS.out.reads 3 rfl) (HS.out.cap 3 rfl) HBB.out) HE.out).mono ?_; rintro e_ w1 ⟨C50, e50, rfl, hs⟩; replace HS := sN1 HS hs; clear hs f1_ f2_ f3_ f4_ f5_ f6_) | ((with_reducible refine gate_dst (N := 25) rfl ?_); refine bxL 26 #[(.int .i64 0), (.int .i64 0), (.slice none 0 0)] HS ?_; clear HS; intro g_pa w1 hg_pa HS) | ((with_reducible refine gate_store (t := 26) (p := 25) rfl ?_); refine stL HS 0 0 #[.int .i64 0, .int .i64 0, .slice C50 ([] : Ts).length e50] rfl rfl rfl rfl rfl ?_; clear HS; intro w1 HS))
              have f1_ := HS.out.c 20 0 (v := .int .i64 dx) rfl rfl
              have f2_ := HS.out.c 20 1 (v := .int .i64 nx) rfl rfl
              have f3_ := HS.out.c 20 2 (v := .slice C31 rx.length e31) rfl rfl
              go_wp2_with (first | (go_at_call 8; refine (got (implReversalOf dx nx C31 e31 rx _ (HS.out.reads 21 rfl) (HS.out.cap 21 rfl) HPR.out) HBR.out).mono ?_; rintro e_ w1 ⟨C51, e51, rfl, hs⟩; replace HS := sN1 HS hs; clear hs f1_ f2_ f3_) | ((with_reducible refine gate_dst (N := 35) rfl ?_); refine bxL 26 #[(.int .i64 0), (.int .i64 0), (.slice none 0 0)] HS ?_; clear HS; intro g_rb w1 hg_rb HS) | ((with_reducible refine gate_store (t := 26) (p := 35) rfl ?_); refine stL HS 0 0 #[.int .i64 dx, .int .i64 nx, .slice C51 lx.length e51] rfl rfl rfl rfl rfl ?_; clear HS; intro w1 HS; have f1_ := HS.out.c 0 0 (v := .int .i64 dx) rfl rfl; have f2_ := HS.out.c 0 1 (v := .int .i64 nx) rfl rfl; have f3_ := HS.out.c 0 2 (v := .slice C51 lx.length e51) rfl rfl; have f4_ := HS.out.c 24 0 (v := .int .i64 dx) rfl rfl; have f5_ := HS.out.c 24 1 (v := .int .i64 nx) rfl rfl; have f6_ := HS.out.c 24 2 (v := .slice Bx lx.length mx) rfl rfl) | (go_at_call 10; refine (lawSeries9 dx nx C51 Bx e51 mx lx _ (HS.out.reads 1 rfl) (HS.out.reads 25 rfl) (bnd_iff.1 HBX.out).1).mono ?_; rintro e_ w1 ⟨rfl, hb⟩; replace HS := sB HS hb; clear hb f1_ f2_ f3_ f4_ f5_ f6_; have f1_ := HS.out.c 22 2 (v := .slice C31 rx.length e31) rfl rfl; have f2_ := HS.out.c 24 2 (v := .slice Bx lx.length mx) rfl rfl))
              go_ret
              exact ⟨rfl, (HS.out.sel [] (by decide)).below⟩
      · have HE := Aside0.mk he
        have hct0 : (ct == 0) = false := by simpa using hct
        have hct1 : (ct != ct) = false := by simp
        clear he hct
        have f1_ := HS.out.c 0 0 (v := .int .i64 dv) rfl rfl
        have f2_ := HS.out.c 0 1 (v := .int .i64 nv) rfl rfl
        have f3_ := HS.out.c 0 2 (v := .slice Bv lv.length mv) rfl rfl
        have tk22_ : True := trivial
        go_upto_region 29 with (first | (go_at_call 14; refine (got (implTruncateSeries dv nv Bv mv lv kv _ (HS.out.reads 1 rfl) (HS.out.cap 1 rfl) HBY.out) HE.out).mono ?_; rintro e_ w1 ⟨C52, e52, rfl, hs⟩; replace HS := sN1 HS hs; clear hs f1_ f2_ f3_) | ((with_reducible refine gate_dst (N := 14) rfl ?_); refine bxL 26 #[(.int .i64 0), (.int .i64 0), (.slice none 0 0)] HS ?_; clear HS; intro g_sh w1 hg_sh HS) | ((with_reducible refine gate_store (t := 26) (p := 14) rfl ?_); refine stL HS 0 0 #[.int .i64 0, .int .i64 0, .slice C52 ([] : Ts).length e52] rfl rfl rfl rfl rfl ?_; clear HS; intro w1 HS; have f1_ := HS.out.c 2 0 (v := .int .i64 dv) rfl rfl; have f2_ := HS.out.c 2 1 (v := .int .i64 nv) rfl rfl; have f3_ := HS.out.c 2 2 (v := .slice Bv lv.length mv) rfl rfl) | (go_at_call 15; refine (got (specTruncateSeries dv nv Bv mv lv kv _ (HS.out.reads 3 rfl) (HS.out.cap 3 rfl) HBY.out) HE.out).mono ?_; rintro e_ w1 ⟨C53, e53, rfl, hs⟩; replace HS := sN1 HS hs; clear hs f1_ f2_ f3_) | ((with_reducible refine gate_dst (N := 16) rfl ?_); refine bxL 26 #[(.int .i64 0), (.int .i64 0), (.slice none 0 0)] HS ?_; clear HS; intro g_dt w1 hg_dt HS) | ((with_reducible refine gate_store (t := 26) (p := 16) rfl ?_); refine stL HS 0 0 #[.int .i64 0, .int .i64 0, .slice C53 ([] : Ts).length e53] rfl rfl rfl rfl rfl ?_; clear HS; intro w1 HS; have f1_ := HS.out.c 2 0 (v := .int .i64 0) rfl rfl; have f2_ := HS.out.c 2 1 (v := .int .i64 0) rfl rfl; have f3_ := HS.out.c 2 2 (v := .slice C52 ([] : Ts).length e52) rfl rfl; have f4_ := HS.out.c 0 0 (v := .int .i64 0) rfl rfl; have f5_ := HS.out.c 0 1 (v := .int .i64 0) rfl rfl; have f6_ := HS.out.c 0 2 (v := .slice C53 ([] : Ts).length e53) rfl rfl) | (go_at_call 10; clear tk22_; refine (lawSeries9 0 0 C52 C53 e52 e53 ([] : Ts) _ (HS.out.reads 3 rfl) (HS.out.reads 1 rfl) (by decide)).mono ?_; rintro e_ w1 ⟨rfl, hb⟩; replace HS := sB HS hb; clear hb f1_ f2_ f3_ f4_ f5_ f6_; have f1_ := HS.out.c 8 0 (v := .int .i64 dx) rfl rfl; have f2_ := HS.out.c 8 1 (v := .int .i64 nx) rfl rfl; have f3_ := HS.out.c 8 2 (v := .slice C33 ax.length e33) rfl rfl) | (go_at_call 11; refine (got (implAntipodeOf dx nx C33 e33 ax _ (HS.out.reads 9 rfl) (HS.out.cap 9 rfl) HPA.out) HBA2.out).mono ?_; rintro e_ w1 ⟨C54, e54, rfl, hs⟩; replace HS := sN1 HS hs; clear hs f1_ f2_ f3_) | ((with_reducible refine gate_dst (N := 18) rfl ?_); refine bxL 26 #[(.int .i64 0), (.int .i64 0), (.slice none 0 0)] HS ?_; clear HS; intro g_an2 w1 hg_an2 HS) | ((with_reducible refine gate_store (t := 26) (p := 18) rfl ?_); refine stL HS 0 0 #[.int .i64 dx, .int .i64 nx, .slice C54 lx.length e54] rfl rfl rfl rfl rfl ?_; clear HS; intro w1 HS; have f1_ := HS.out.c 0 0 (v := .int .i64 dx) rfl rfl; have f2_ := HS.out.c 0 1 (v := .int .i64 nx) rfl rfl; have f3_ := HS.out.c 0 2 (v := .slice C54 lx.length e54) rfl rfl; have f4_ := HS.out.c 16 0 (v := .int .i64 dx) rfl rfl; have f5_ := HS.out.c 16 1 (v := .int .i64 nx) rfl rfl; have f6_ := HS.out.c 16 2 (v := .slice Bx lx.length mx) rfl rfl) | (go_at_call 10; refine (lawSeries9 dx nx C54 Bx e54 mx lx _ (HS.out.reads 1 rfl) (HS.out.reads 17 rfl) (bnd_iff.1 HBX.out).1).mono ?_; rintro e_ w1 ⟨rfl, hb⟩; replace HS := sB HS hb; clear hb f1_ f2_ f3_ f4_ f5_ f6_) | (go_at_call 17; refine (specDrawCommutatorOf A c xs _ (HX.out.old HS.out)).mono ?_; rintro e_ w1 ⟨da, na, Ba, ma, la, db, nb, Bb, mb, lb, rfl, hba, hbb, hoka, hokb, hs⟩; replace HS := sN2 HS hs; clear hs) | ((with_reducible refine gate_dst (N := 23) rfl ?_); refine bxL 26 #[(.int .i64 0), (.int .i64 0), (.slice none 0 0)] HS ?_; clear HS; intro g_a w1 hg_a HS) | ((with_reducible refine gate_dst (N := 24) rfl ?_); refine bxL 26 #[(.int .i64 0), (.int .i64 0), (.slice none 0 0)] HS ?_; clear HS; intro g_b w1 hg_b HS) | ((with_reducible refine gate_store (t := 26) (p := 23) rfl ?_); refine stL HS 1 0 #[.int .i64 da, .int .i64 na, .slice Ba la.length ma] rfl rfl rfl rfl rfl ?_; clear HS; intro w1 HS) | ((with_reducible refine gate_store (t := 26) (p := 24) rfl ?_); refine stL HS 0 0 #[.int .i64 db, .int .i64 nb, .slice Bb lb.length mb] rfl rfl rfl rfl rfl ?_; clear HS; intro w1 HS))
        rcases mulR_cases da na la db nb lb with ⟨p, hA, hB, rfl, rfl, _, he, hP⟩ | ⟨cm, hcm, he⟩
        · have HE := Aside0.mk he
          have HBA := Aside0.mk (isS_bnd' hA)
          have HBB := Aside0.mk (isS_bnd' hB)
          have HBP := Aside0.mk (isS_bnd' hP)
          have HRA := Aside0.mk (revR_yes (b := false) hA)
          have HRB := Aside0.mk (revR_yes (b := false) hB)
          have HRP := Aside0.mk (revR_yes (b := false) hP)
          have HBRA := Aside0.mk (isS_bnd' (rev_isS false hA))
          have HBRB := Aside0.mk (isS_bnd' (rev_isS false hB))
          have HBRP := Aside0.mk (isS_bnd' (rev_isS false hP))
          have HMR := Aside0.mk (fun hk => mulR_rev he hk)
          obtain ⟨ra, era⟩ : ∃ z, z = tabT da.toNat na.toNat (revF false la) := ⟨_, rfl⟩
          obtain ⟨rb, erb⟩ : ∃ z, z = tabT da.toNat na.toNat (revF false lb) := ⟨_, rfl⟩
          obtain ⟨rp, erp⟩ : ∃ z, z = tabT da.toNat na.toNat (revF false p) := ⟨_, rfl⟩
          rw [← era] at HRA HBRA HMR
          rw [← erb] at HRB HBRB HMR
          rw [← erp] at HRP HBRP HMR
          clear era erb erp hA hB hP he
          rcases mulR_cases da na rb da na ra with ⟨q, _, _, _, _, _, hq, _⟩ | ⟨cq, hcq, hq⟩
          · have hrv := HMR.out (by rw [hq])
            have HQ := Aside0.mk hrv
            clear hq hrv HMR
            have f1_ := HS.out.c 1 0 (v := .int .i64 da) rfl rfl
            have f2_ := HS.out.c 1 1 (v := .int .i64 na) rfl rfl
            have f3_ := HS.out.c 1 2 (v := .slice Ba la.length ma) rfl rfl
            have f4_ := HS.out.c 0 0 (v := .int .i64 da) rfl rfl
            have f5_ := HS.out.c 0 1 (v := .int .i64 na) rfl rfl
            have f6_ := HS.out.c 0 2 (v := .slice Bb lb.length mb) rfl rfl
            have tk23_ : True := trivial
            have tk24_ : True := trivial
            have tk25_ : True := trivial
            go_upto_region 37 with (first | (go_at_call 18; clear tk23_; refine (got (implMultiplySeries da na Ba ma la da na Bb mb lb _ (HS.out.reads 2 rfl) (HS.out.cap 2 rfl) HBA.out (HS.out.reads 3 rfl) (HS.out.cap 3 rfl) HBB.out) HE.out).mono ?_; rintro e_ w1 ⟨C55, e55, rfl, hs⟩; replace HS := sN1 HS hs; clear hs f1_ f2_ f3_ f4_ f5_ f6_) | ((with_reducible refine gate_dst (N := 25) rfl ?_); refine bxL 26 #[(.int .i64 0), (.int .i64 0), (.slice none 0 0)] HS ?_; clear HS; intro g_pa w1 hg_pa HS) | ((with_reducible refine gate_store (t := 26) (p := 25) rfl ?_); refine stL HS 0 0 #[.int .i64 da, .int .i64 na, .slice C55 p.length e55] rfl rfl rfl rfl rfl ?_; clear HS; intro w1 HS; have f1_ := HS.out.c 3 0 (v := .int .i64 da) rfl rfl; have f2_ := HS.out.c 3 1 (v := .int .i64 na) rfl rfl; have f3_ := HS.out.c 3 2 (v := .slice Ba la.length ma) rfl rfl) | (go_at_call 8; clear tk24_; refine (got (implReversalOf da na Ba ma la _ (HS.out.reads 4 rfl) (HS.out.cap 4 rfl) HBA.out) HRA.out).mono ?_; rintro e_ w1 ⟨C56, e56, rfl, hs⟩; replace HS := sN1 HS hs; clear hs f1_ f2_ f3_) | ((with_reducible refine gate_dst (N := 27) rfl ?_); refine bxL 26 #[(.int .i64 0), (.int .i64 0), (.slice none 0 0)] HS ?_; clear HS; intro g_pb w1 hg_pb HS) | ((with_reducible refine gate_store (t := 26) (p := 27) rfl ?_); refine stL HS 0 0 #[.int .i64 da, .int .i64 na, .slice C56 ra.length e56] rfl rfl rfl rfl rfl ?_; clear HS; intro w1 HS; have f1_ := HS.out.c 4 0 (v := .int .i64 da) rfl rfl; have f2_ := HS.out.c 4 1 (v := .int .i64 na) rfl rfl; have f3_ := HS.out.c 4 2 (v := .slice Bb lb.length mb) rfl rfl) | (go_at_call 8; clear tk25_; refine (got (implReversalOf da na Bb mb lb _ (HS.out.reads 7 rfl) (HS.out.cap 7 rfl) HBB.out) HRB.out).mono ?_; rintro e_ w1 ⟨C57, e57, rfl, hs⟩; replace HS := sN1 HS hs; clear hs f1_ f2_ f3_) | ((with_reducible refine gate_dst (N := 29) rfl ?_); refine bxL 26 #[(.int .i64 0), (.int .i64 0), (.slice none 0 0)] HS ?_; clear HS; intro g_pr w1 hg_pr HS) | ((with_reducible refine gate_store (t := 26) (p := 29) rfl ?_); refine stL HS 0 0 #[.int .i64 da, .int .i64 na, .slice C57 rb.length e57] rfl rfl rfl rfl rfl ?_; clear HS; intro w1 HS; have f1_ := HS.out.c 0 0 (v := .int .i64 da) rfl rfl; have f2_ := HS.out.c 0 1 (v := .int .i64 na) rfl rfl; have f3_ := HS.out.c 0 2 (v := .slice C57 rb.length e57) rfl rfl; have f4_ := HS.out.c 2 0 (v := .int .i64 da) rfl rfl; have f5_ := HS.out.c 2 1 (v := .int .i64 na) rfl rfl; have f6_ := HS.out.c 2 2 (v := .slice C56 ra.length e56) rfl rfl) | (go_at_call 18; refine (got (implMultiplySeries da na C57 e57 rb da na C56 e56 ra _ (HS.out.reads 1 rfl) (HS.out.cap 1 rfl) HBRB.out (HS.out.reads 3 rfl) (HS.out.cap 3 rfl) HBRA.out) HQ.out).mono ?_; rintro e_ w1 ⟨C58, e58, rfl, hs⟩; replace HS := sN1 HS hs; clear hs f1_ f2_ f3_ f4_ f5_ f6_) | ((with_reducible refine gate_dst (N := 31) rfl ?_); refine bxL 26 #[(.int .i64 0), (.int .i64 0), (.slice none 0 0)] HS ?_; clear HS; intro g_fi w1 hg_fi HS) | ((with_reducible refine gate_store (t := 26) (p := 31) rfl ?_); refine stL HS 0 0 #[.int .i64 da, .int .i64 na, .slice C58 rp.length e58] rfl rfl rfl rfl rfl ?_; clear HS; intro w1 HS; have f1_ := HS.out.c 6 0 (v := .int .i64 da) rfl rfl; have f2_ := HS.out.c 6 1 (v := .int .i64 na) rfl rfl; have f3_ := HS.out.c 6 2 (v := .slice C55 p.length e55) rfl rfl) | (go_at_call 8; refine (got (implReversalOf da na C55 e55 p _ (HS.out.reads 7 rfl) (HS.out.cap 7 rfl) HBP.out) HRP.out).mono ?_; rintro e_ w1 ⟨C59, e59, rfl, hs⟩; replace HS := sN1 HS hs; clear hs f1_ f2_ f3_) | ((with_reducible refine gate_dst (N := 33) rfl ?_); refine bxL 26 #[(.int .i64 0), (.int .i64 0), (.slice none 0 0)] HS ?_; clear HS; intro g_se w1 hg_se HS) | ((with_reducible refine gate_store (t := 26) (p := 33) rfl ?_); refine stL HS 0 0 #[.int .i64 da, .int .i64 na, .slice C59 rp.length e59] rfl rfl rfl rfl rfl ?_; clear HS; intro w1 HS; have f1_ := HS.out.c 2 0 (v := .int .i64 da) rfl rfl; have f2_ := HS.out.c 2 1 (v := .int .i64 na) rfl rfl; have f3_ := HS.out.c 2 2 (v := .slice C58 rp.length e58) rfl rfl; have f4_ := HS.out.c 0 0 (v := .int .i64 da) rfl rfl; have f5_ := HS.out.c 0 1 (v := .int .i64 na) rfl rfl; have f6_ := HS.out.c 0 2 (v := .slice C59 rp.length e59) rfl rfl) | (go_at_call 10; refine (lawSeries9 da na C58 C59 e58 e59 rp _ (HS.out.reads 3 rfl) (HS.out.reads 1 rfl) (bnd_iff.1 HBRP.out).1).mono ?_; rintro e_ w1 ⟨rfl, hb⟩; replace HS := sB HS hb; clear hb f1_ f2_ f3_ f4_ f5_ f6_))
            have f1_ := HS.out.c 28 0 (v := .int .i64 dx) rfl rfl
            have f2_ := HS.out.c 28 1 (v := .int .i64 nx) rfl rfl
            have f3_ := HS.out.c 28 2 (v := .slice C31 rx.length e31) rfl rfl
            go_wp2_with (first | (go_at_call 8; refine (got (implReversalOf dx nx C31 e31 rx _ (HS.out.reads 29 rfl) (HS.out.cap 29 rfl) HPR.out) HBR.out).mono ?_; rintro e_ w1 ⟨C60, e60, rfl, hs⟩; replace HS := sN1 HS hs; clear hs f1_ f2_ f3_) | ((with_reducible refine gate_dst (N := 35) rfl ?_); refine bxL 26 #[(.int .i64 0), (.int .i64 0), (.slice none 0 0)] HS ?_; clear HS; intro g_rb w1 hg_rb HS) | ((with_reducible refine gate_store (t := 26) (p := 35) rfl ?_); refine stL HS 0 0 #[.int .i64 dx, .int .i64 nx, .slice C60 lx.length e60] rfl rfl rfl rfl rfl ?_; clear HS; intro w1 HS; have f1_ := HS.out.c 0 0 (v := .int .i64 dx) rfl rfl; have f2_ := HS.out.c 0 1 (v := .int .i64 nx) rfl rfl; have f3_ := HS.out.c 0 2 (v := .slice C60 lx.length e60) rfl rfl; have f4_ := HS.out.c 32 0 (v := .int .i64 dx) rfl rfl; have f5_ := HS.out.c 32 1 (v := .int .i64 nx) rfl rfl; have f6_ := HS.out.c 32 2 (v := .slice Bx lx.length mx) rfl rfl) | (go_at_call 10; refine (lawSeries9 dx nx C60 Bx e60 mx lx _ (HS.out.reads 1 rfl) (HS.out.reads 33 rfl) (bnd_iff.1 HBX.out).1).mono ?_; rintro e_ w1 ⟨rfl, hb⟩; replace HS := sB HS hb; clear hb f1_ f2_ f3_ f4_ f5_ f6_; have f1_ := HS.out.c 30 2 (v := .slice C31 rx.length e31) rfl rfl; have f2_ := HS.out.c 32 2 (v := .slice Bx lx.length mx) rfl rfl))
            go_ret
            exact ⟨rfl, (HS.out.sel [] (by decide)).below⟩
          · have HQ := Aside0.mk hq
            have hcq0 : (cq == 0) = false := by simpa using hcq
            clear hq hcq HMR
            have f1_ := HS.out.c 1 0 (v := .int .i64 da) rfl rfl
            have f2_ := HS.out.c 1 1 (v := .int .i64 na) rfl rfl
            have f3_ := HS.out.c 1 2 (v := .slice Ba la.length ma) rfl rfl
            have f4_ := HS.out.c 0 0 (v := .int .i64 da) rfl rfl
            have f5_ := HS.out.c 0 1 (v := .int .i64 na) rfl rfl
            have f6_ := HS.out.c 0 2 (v := .slice Bb lb.length mb) rfl rfl
            have tk26_ : True := trivial
            have tk27_ : True := trivial
            have tk28_ : True := trivial
            go_upto_region 37 with (first | (go_at_call 18; clear tk26_; refine (got (implMultiplySeries da na Ba ma la da na Bb mb lb _ (HS.out.reads 2 rfl) (HS.out.cap 2 rfl) HBA.out (HS.out.reads 3 rfl) (HS.out.cap 3 rfl) HBB.out) HE.out).mono ?_; rintro e_ w1 ⟨C61, e61, rfl, hs⟩; replace HS := sN1 HS hs; clear hs f1_ f2_ f3_ f4_ f5_ f6_) | ((with_reducible refine gate_dst (N := 25) rfl ?_); refine bxL 26 #[(.int .i64 0), (.int .i64 0), (.slice none 0 0)] HS ?_; clear HS; intro g_pa w1 hg_pa HS) | ((with_reducible refine gate_store (t := 26) (p := 25) rfl ?_); refine stL HS 0 0 #[.int .i64 da, .int .i64 na, .slice C61 p.length e61] rfl rfl rfl rfl rfl ?_; clear HS; intro w1 HS; have f1_ := HS.out.c 3 0 (v := .int .i64 da) rfl rfl; have f2_ := HS.out.c 3 1 (v := .int .i64 na) rfl rfl; have f3_ := HS.out.c 3 2 (v := .slice Ba la.length ma) rfl rfl) | (go_at_call 8; clear tk27_; refine (got (implReversalOf da na Ba ma la _ (HS.out.reads 4 rfl) (HS.out.cap 4 rfl) HBA.out) HRA.out).mono ?_; rintro e_ w1 ⟨C62, e62, rfl, hs⟩; replace HS := sN1 HS hs; clear hs f1_ f2_ f3_) | ((with_reducible refine gate_dst (N := 27) rfl ?_); refine bxL 26 #[(.int .i64 0), (.int .i64 0), (.slice none 0 0)] HS ?_; clear HS; intro g_pb w1 hg_pb HS) | ((with_reducible refine gate_store (t := 26) (p := 27) rfl ?_); refine stL HS 0 0 #[.int .i64 da, .int .i64 na, .slice C62 ra.length e62] rfl rfl rfl rfl rfl ?_; clear HS; intro w1 HS; have f1_ := HS.out.c 4 0 (v := .int .i64 da) rfl rfl; have f2_ := HS.out.c 4 1 (v := .int .i64 na) rfl rfl; have f3_ := HS.out.c 4 2 (v := .slice Bb lb.length mb) rfl rfl) | (go_at_call 8; clear tk28_; refine (got (implReversalOf da na Bb mb lb _ (HS.out.reads 7 rfl) (HS.out.cap 7 rfl) HBB.out) HRB.out).mono ?_; rintro e_ w1 ⟨C63, e63, rfl, hs⟩; replace HS := sN1 HS hs; clear hs f1_ f2_ f3_) | ((with_reducible refine gate_dst (N := 29) rfl ?_); refine bxL 26 #[(.int .i64 0), (.int .i64 0), (.slice none 0 0)] HS ?_; clear HS; intro g_pr w1 hg_pr HS) | ((with_reducible refine gate_store (t := 26) (p := 29) rfl ?_); refine stL HS 0 0 #[.int .i64 da, .int .i64 na, .slice C63 rb.length e63] rfl rfl rfl rfl rfl ?_; clear HS; intro w1 HS; have f1_ := HS.out.c 0 0 (v := .int .i64 da) rfl rfl; have f2_ := HS.out.c 0 1 (v := .int .i64 na) rfl rfl; have f3_ := HS.out.c 0 2 (v := .slice C63 rb.length e63) rfl rfl; have f4_ := HS.out.c 2 0 (v := .int .i64 da) rfl rfl; have f5_ := HS.out.c 2 1 (v := .int .i64 na) rfl rfl; have f6_ := HS.out.c 2 2 (v := .slice C62 ra.length e62) rfl rfl) | (go_at_call 18; refine (got (implMultiplySeries da na C63 e63 rb da na C62 e62 ra _ (HS.out.reads 1 rfl) (HS.out.cap 1 rfl) HBRB.out (HS.out.reads 3 rfl) (HS.out.cap 3 rfl) HBRA.out) HQ.out).mono ?_; rintro e_ w1 ⟨C64, e64, rfl, hs⟩; replace HS := sN1 HS hs; clear hs f1_ f2_ f3_ f4_ f5_ f6_) | ((with_reducible refine gate_dst (N := 31) rfl ?_); refine bxL 26 #[(.int .i64 0), (.int .i64 0), (.slice none 0 0)] HS ?_; clear HS; intro g_fi w1 hg_fi HS) | ((with_reducible refine gate_store (t := 26) (p := 31) rfl ?_); refine stL HS 0 0 #[.int .i64 0, .int .i64 0, .slice C64 ([] : Ts).length e64] rfl rfl rfl rfl rfl ?_; clear HS; intro w1 HS; have f1_ := HS.out.c 6 0 (v := .int .i64 da) rfl rfl; have f2_ := HS.out.c 6 1 (v := .int .i64 na) rfl rfl; have f3_ := HS.out.c 6 2 (v := .slice C61 p.length e61) rfl rfl) | (go_at_call 8; refine (got (implReversalOf da na C61 e61 p _ (HS.out.reads 7 rfl) (HS.out.cap 7 rfl) HBP.out) HRP.out).mono ?_; rintro e_ w1 ⟨C65, e65, rfl, hs⟩; replace HS := sN1 HS hs; clear hs f1_ f2_ f3_) | ((with_reducible refine gate_dst (N := 33) rfl ?_); refine bxL 26 #[(.int .i64 0), (.int .i64 0), (.slice none 0 0)] HS ?_; clear HS; intro g_se w1 hg_se HS) | ((with_reducible refine gate_store (t := 26) (p := 33) rfl ?_); refine stL HS 0 0 #[.int .i64 da, .int .i64 na, .slice C65 rp.length e65] rfl rfl rfl rfl rfl ?_; clear HS; intro w1 HS))
            have f1_ := HS.out.c 28 0 (v := .int .i64 dx) rfl rfl
            have f2_ := HS.out.c 28 1 (v := .int .i64 nx) rfl rfl
            have f3_ := HS.out.c 28 2 (v := .slice C31 rx.length e31) rfl rfl
            go_wp2_with (first | (go_at_call 8; refine (got (implReversalOf dx nx C31 e31 rx _ (HS.out.reads 29 rfl) (HS.out.cap 29 rfl) HPR.out) HBR.out).mono ?_; rintro e_ w1 ⟨C66, e66, rfl, hs⟩; replace HS := sN1 HS hs; clear hs f1_ f2_ f3_) | ((with_reducible refine gate_dst (N := 35) rfl ?_); refine bxL 26 #[(.int .i64 0), (.int .i64 0), (.slice none 0 0)] HS ?_; clear HS; intro g_rb w1 hg_rb HS) | ((with_reducible refine gate_store (t := 26) (p := 35) rfl ?_); refine stL HS 0 0 #[.int .i64 dx, .int .i64 nx, .slice C66 lx.length e66] rfl rfl rfl rfl rfl ?_; clear HS; intro w1 HS; have f1_ := HS.out.c 0 0 (v := .int .i64 dx) rfl rfl; have f2_ := HS.out.c 0 1 (v := .int .i64 nx) rfl rfl; have f3_ := HS.out.c 0 2 (v := .slice C66 lx.length e66) rfl rfl; have f4_ := HS.out.c 32 0 (v := .int .i64 dx) rfl rfl; have f5_ := HS.out.c 32 1 (v := .int .i64 nx) rfl rfl; have f6_ := HS.out.c 32 2 (v := .slice Bx lx.length mx) rfl rfl) | (go_at_call 10; refine (lawSeries9 dx nx C66 Bx e66 mx lx _ (HS.out.reads 1 rfl) (HS.out.reads 33 rfl) (bnd_iff.1 HBX.out).1).mono ?_; rintro e_ w1 ⟨rfl, hb⟩; replace HS := sB HS hb; clear hb f1_ f2_ f3_ f4_ f5_ f6_; have f1_ := HS.out.c 30 2 (v := .slice C31 rx.length e31) rfl rfl; have f2_ := HS.out.c 32 2 (v := .slice Bx lx.length mx) rfl rfl))
            go_ret
            exact ⟨rfl, (HS.out.sel [] (by decide)).below⟩
        · have HE := Aside0.mk he
          have hcm0 : (cm == 0) = false := by simpa using hcm
          have HBA := Aside0.mk hoka.1
          have HBB := Aside0.mk hokb.1
          clear he hcm
          have f1_ := HS.out.c 1 0 (v := .int .i64 da) rfl rfl
          have f2_ := HS.out.c 1 1 (v := .int .i64 na) rfl rfl
          have f3_ := HS.out.c 1 2 (v := .slice Ba la.length ma) rfl rfl
          have f4_ := HS.out.c 0 0 (v := .int .i64 db) rfl rfl
          have f5_ := HS.out.c 0 1 (v := .int .i64 nb) rfl rfl
          have f6_ := HS.out.c 0 2 (v := .slice Bb lb.length mb) rfl rfl
          go_upto_region 37 with (first | (go_at_call 18; refine (got (implMultiplySeries da na Ba ma la db nb Bb mb lb _ (HS.out.reads 2 rfl) (HS.out.cap 2 rfl) HBA.out (HS.out.reads 3 rfl) (HS.out.cap 3 rfl) HBB.out) HE.out).mono ?_; rintro e_ w1 ⟨C67, e67, rfl, hs⟩; replace HS := sN1 HS hs; clear hs f1_ f2_ f3_ f4_ f5_ f6_) | ((with_reducible refine gate_dst (N := 25) rfl ?_); refine bxL 26 #[(.int .i64 0), (.int .i64 0), (.slice none 0 0)] HS ?_; clear HS; intro g_pa w1 hg_pa HS) | ((with_reducible refine gate_store (t := 26) (p := 25) rfl ?_); refine stL HS 0 0 #[.int .i64 0, .int .i64 0, .slice C67 ([] : Ts).length e67] rfl rfl rfl rfl rfl ?_; clear HS; intro w1 HS))
          have f1_ := HS.out.c 20 0 (v := .int .i64 dx) rfl rfl
          have f2_ := HS.out.c 20 1 (v := .int .i64 nx) rfl rfl
          have f3_ := HS.out.c 20 2 (v := .slice C31 rx.length e31) rfl rfl
          go_wp2_with (first | (go_at_call 8; refine (got (implReversalOf dx nx C31 e31 rx _ (HS.out.reads 21 rfl) (HS.out.cap 21 rfl) HPR.out) HBR.out).mono ?_; rintro e_ w1 ⟨C68, e68, rfl, hs⟩; replace HS := sN1 HS hs; clear hs f1_ f2_ f3_) | ((with_reducible refine gate_dst (N := 35) rfl ?_); refine bxL 26 #[(.int .i64 0), (.int .i64 0), (.slice none 0 0)] HS ?_; clear HS; intro g_rb w1 hg_rb HS) | ((with_reducible refine gate_store (t := 26) (p := 35) rfl ?_); refine stL HS 0 0 #[.int .i64 dx, .int .i64 nx, .slice C68 lx.length e68] rfl rfl rfl rfl rfl ?_; clear HS; intro w1 HS; have f1_ := HS.out.c 0 0 (v := .int .i64 dx) rfl rfl; have f2_ := HS.out.c 0 1 (v := .int .i64 nx) rfl rfl; have f3_ := HS.out.c 0 2 (v := .slice C68 lx.length e68) rfl rfl; have f4_ := HS.out.c 24 0 (v := .int .i64 dx) rfl rfl; have f5_ := HS.out.c 24 1 (v := .int .i64 nx) rfl rfl; have f6_ := HS.out.c 24 2 (v := .slice Bx lx.length mx) rfl rfl) | (go_at_call 10; refine (lawSeries9 dx nx C68 Bx e68 mx lx _ (HS.out.reads 1 rfl) (HS.out.reads 25 rfl) (bnd_iff.1 HBX.out).1).mono ?_; rintro e_ w1 ⟨rfl, hb⟩; replace HS := sB HS hb; clear hb f1_ f2_ f3_ f4_ f5_ f6_; have f1_ := HS.out.c 22 2 (v := .slice C31 rx.length e31) rfl rfl; have f2_ := HS.out.c 24 2 (v := .slice Bx lx.length mx) rfl rfl))
          go_ret
          exact ⟨rfl, (HS.out.sel [] (by decide)).below⟩
end Go.Proofs.Ytibjkjhpfmmjoaa.H



