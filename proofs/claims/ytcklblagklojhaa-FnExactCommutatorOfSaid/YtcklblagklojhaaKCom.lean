/- Commutators of tables and of series. Conditions: the bounds that stand in each statement. -/
import Derived.Test.YtcklblagklojhaaKAddk
import Derived.Test.YtcklblagklojhaaKTimesS
import Derived.Test.YtcklblagklojhaaKTabR
namespace Go.Proofs.Ytcklblagklojhaa.M
theorem com_rel {d n : Nat} (hd : d ≤ 9) (x y : Ts) : ∃ F, Rel d n (comS d n x y) F :=
  ⟨_, sum_relT hd (mul_rel (n := n) hd x y) (scale_relT hd (mul_rel (n := n) hd y x) (a := (-1, 1)) (by decide))⟩
end Go.Proofs.Ytcklblagklojhaa.M
namespace Go.Proofs.Ytcklblagklojhaa.H
open Go.RowKit Go.Proofs.YtcklblagklojhaaW.PrintWords Go.Proofs.YtcklblagklojhaaW.PrintLast Go.Proofs.YtcklblagklojhaaW.PrintMore Go.Proofs.Ytcklblagklojhaa.M
attribute [local go_sem] max2_int min2_int max_two min_two max_three min_three max_four min_four resQ
set_option linter.unusedVariables false
set_option linter.unusedSimpArgs false
set_option maxRecDepth 100000
set_option maxHeartbeats 8000000 in
theorem tabCom {w : World} {d n g1 v1 g2 v2 : Nat} {F1 F2 : Tb} {o1 o2 : Option Ts} (hl : lev d n = true) (h1 : TabI w g1 v1 d n F1 o1) (h2 : TabI w g2 v2 d n F2 o2) :
    Calls Try.prog 157 #[.pointer (some ⟨g1, 0, none⟩), .pointer (some ⟨g2, 0, none⟩)] w (RetT w d n (two sumS (two (mulS d n) o1 o2) ((two (mulS d n) o2 o1).bind fun q => scS q (-1, 1)))) := by
  have HL := Aside0.mk hl
  have H1 := Aside0.mk h1
  have H2 := Aside0.mk h2
  have HS := Aside0.mk (Sep.refl w)
  clear hl h1 h2
  go_enter Try.func157, Try.ntmps157
  have tk1_ : True := trivial
  go_wp2_with (first | (go_at_call 148; clear tk1_; refine (tabTimes HL.out (H1.out.old HS.out) (H2.out.old HS.out)).mono ?_; rintro e_ w1 ⟨ga, va, Fa, rfl, hF, hQ, hs⟩; replace HS := sN2 HS hs; clear hs; have HFa := Aside0.mk hF; have HQa := Aside0.mk hQ; clear hF hQ) | (go_at_call 148; refine (tabTimes HL.out (H2.out.old HS.out) (H1.out.old HS.out)).mono ?_; rintro e_ w1 ⟨gb, vb, Fb, rfl, hF, hQ, hs⟩; replace HS := sN2 HS hs; clear hs; have HFb := Aside0.mk hF; have HQb := Aside0.mk hQ; clear hF hQ) | (go_at_call 104; refine (implWhole (-1) _).mono ?_; rintro e_ w1 ⟨rfl, hb⟩; replace HS := sB HS hb; clear hb) | (go_at_call 140; refine (tabScaled HL.out ⟨HFb.out, HQb.out, HS.out.at (i := 0) rfl, HS.out.at (i := 1) rfl⟩ (a := (-1, 1)) (by decide)).mono ?_; rintro e_ w1 ⟨gc, vc, Fc, rfl, hF, hQ, hs⟩; replace HS := sN2 HS hs; clear hs; have HFc := Aside0.mk hF; have HQc := Aside0.mk hQ; clear hF hQ) | (go_at_call 146; refine (tabSum HL.out ⟨HFa.out, HQa.out, HS.out.at (i := 4) rfl, HS.out.at (i := 5) rfl⟩ ⟨HFc.out, HQc.out, HS.out.at (i := 0) rfl, HS.out.at (i := 1) rfl⟩).mono ?_; rintro e_ w1 ⟨gd, vd, Fd, rfl, hF, hQ, hs⟩; replace HS := sN2 HS hs; clear hs; have HFd := Aside0.mk hF; have HQd := Aside0.mk hQ; clear hF hQ))
  go_ret
  exact ⟨gd, vd, Fd, rfl, HFd.out, HQd.out, HS.out.sel [0, 1] (by decide)⟩
set_option maxHeartbeats 8000000 in
theorem specComQ (d n : Nat) (hd : d ≤ 3) (hn : n ≤ 5) (A : Option Addr) (c : Nat) (l : Ts) (A2 : Option Addr) (cc : Nat) (l2 : Ts) (w : World) (hr : KT.C w A l.length l) (hc : l.length ≤ c) (hr2 : KT.C w A2 l2.length l2) (hcc : l2.length ≤ cc) (hx : isTs d n l = true) (hy : isTs d n l2 = true) :
    Calls Try.prog 156 #[.agg #[.int .i64 (d : Int), .int .i64 (n : Int), .slice A l.length c], .agg #[.int .i64 (d : Int), .int .i64 (n : Int), .slice A2 l2.length cc]] w (RetQ w (resQ d n (comS d n l l2))) := by
  have hd9 : d ≤ 9 := by omega
  have HR := Aside0.mk hr
  have HR2 := Aside0.mk hr2
  have HP := Aside0.mk (fun W k1 k2 => specTimes2 d n hd hn A c l A2 cc l2 W k1 hc k2 hcc hx hy)
  have HP2 := Aside0.mk (fun W k1 k2 => specTimes2 d n hd hn A2 cc l2 A c l W k2 hcc k1 hc hy hx)
  have HS := Aside0.mk (Sep.refl w)
  obtain ⟨o1, ho1⟩ : ∃ o1, o1 = mulS d n l l2 := ⟨_, rfl⟩
  obtain ⟨o2, ho2⟩ : ∃ o2, o2 = mulS d n l2 l := ⟨_, rfl⟩
  have HO := Aside0.mk (show comS d n l l2 = two sumS o1 (o2.bind fun q => scS q (-1, 1)) by rw [ho1, ho2]; rfl)
  have HT1 := Aside0.mk (fun p (h : o1 = some p) => mul_ts hd9 (ho1.symm.trans h))
  have HT2 := Aside0.mk (fun p (h : o2 = some p) => mul_ts hd9 (ho2.symm.trans h))
  rw [← ho1] at HP
  rw [← ho2] at HP2
  rw [HO.out]
  clear hr hr2 hx hy ho1 ho2 HO
  cases o1 with
  | none =>
    obtain ⟨R, hR⟩ : ∃ R, R = resQ d n o2 := ⟨_, rfl⟩
    rw [← hR] at HP2
    clear hR
    go_enter Try.func156, Try.ntmps156
    have tk2_ : True := trivial
    go_wp2_with (first | ((with_reducible refine gate_dst (N := 2) rfl ?_); refine bxL 32 #[.int .i64 (d : Int), .int .i64 (n : Int), .slice A l.length c] HS ?_; clear HS; intro g_p w1 hg_p HS) | ((with_reducible refine gate_dst (N := 3) rfl ?_); refine bxL 32 #[.int .i64 (d : Int), .int .i64 (n : Int), .slice A2 l2.length cc] HS ?_; clear HS; intro g_a w1 hg_a HS) | ((with_reducible refine gate_dst (N := 4) rfl ?_); refine bxL 32 #[(.int .i64 0), (.int .i64 0), (.slice none 0 0)] HS ?_; clear HS; intro g_r w1 hg_r HS; have f1_ := HS.out.c 2 0 (v := .int .i64 (d : Int)) rfl rfl; have f2_ := HS.out.c 2 1 (v := .int .i64 (n : Int)) rfl rfl; have f3_ := HS.out.c 2 2 (v := .slice A l.length c) rfl rfl; have f4_ := HS.out.c 1 0 (v := .int .i64 (d : Int)) rfl rfl; have f5_ := HS.out.c 1 1 (v := .int .i64 (n : Int)) rfl rfl; have f6_ := HS.out.c 1 2 (v := .slice A2 l2.length cc) rfl rfl) | (go_at_call 147; clear tk2_; refine (HP.out _ (HS.out.oldC HR.out) (HS.out.oldC HR2.out)).mono ?_; rintro e_ w1 ⟨B, b, rfl, hs⟩; replace HS := sN1 HS hs; clear hs f1_ f2_ f3_ f4_ f5_ f6_) | ((with_reducible refine gate_dst (N := 6) rfl ?_); refine bxL 32 #[(.int .i64 0), (.int .i64 0), (.slice none 0 0)] HS ?_; clear HS; intro g_x w1 hg_x HS) | ((with_reducible refine gate_store (t := 32) (p := 6) rfl ?_); refine stL HS 0 0 #[.int .i64 0, .int .i64 0, .slice B ([] : Ts).length b] rfl rfl rfl rfl rfl ?_; clear HS; intro w1 HS; have f1_ := HS.out.c 3 0 (v := .int .i64 (d : Int)) rfl rfl; have f2_ := HS.out.c 3 1 (v := .int .i64 (n : Int)) rfl rfl; have f3_ := HS.out.c 3 2 (v := .slice A2 l2.length cc) rfl rfl; have f4_ := HS.out.c 4 0 (v := .int .i64 (d : Int)) rfl rfl; have f5_ := HS.out.c 4 1 (v := .int .i64 (n : Int)) rfl rfl; have f6_ := HS.out.c 4 2 (v := .slice A l.length c) rfl rfl) | (go_at_call 147; refine (HP2.out _ (HS.out.oldC HR.out) (HS.out.oldC HR2.out)).mono ?_; rintro e_ w1 ⟨B2, b2, rfl, hs⟩; replace HS := sN1 HS hs; clear hs f1_ f2_ f3_ f4_ f5_ f6_) | ((with_reducible refine gate_dst (N := 8) rfl ?_); refine bxL 32 #[(.int .i64 0), (.int .i64 0), (.slice none 0 0)] HS ?_; clear HS; intro g_y w1 hg_y HS) | ((with_reducible refine gate_store (t := 32) (p := 8) rfl ?_); refine stL HS 0 0 #[.int .i64 R.1, .int .i64 R.2.1, .slice B2 R.2.2.1.length b2] rfl rfl rfl rfl rfl ?_; clear HS; intro w1 HS) | ((with_reducible refine gate_store (t := 32) (p := 4) rfl ?_); refine stL HS 4 0 #[(.int .i64 0), (.int .i64 0), (.slice none 0 0)] rfl rfl rfl rfl rfl ?_; clear HS; intro w1 HS))
    refine bodyPost_ret (results_cell_tmp_row rfl _ _ g_r 32 #[(.int .i64 0), (.int .i64 0), (.slice none 0 0)] (0, 0) _ rfl (HS.out.at (i := 4) rfl) Try.underlying32 rfl (by kernel_rfl)) rfl ?_
    exact ⟨none, 0, rfl, nilS (HS.out.sel [] (by decide))⟩
  | some p =>
    cases o2 with
    | none =>
      go_enter Try.func156, Try.ntmps156
      have tk3_ : True := trivial
      go_wp2_with (first | ((with_reducible refine gate_dst (N := 2) rfl ?_); refine bxL 32 #[.int .i64 (d : Int), .int .i64 (n : Int), .slice A l.length c] HS ?_; clear HS; intro g_p w1 hg_p HS) | ((with_reducible refine gate_dst (N := 3) rfl ?_); refine bxL 32 #[.int .i64 (d : Int), .int .i64 (n : Int), .slice A2 l2.length cc] HS ?_; clear HS; intro g_a w1 hg_a HS) | ((with_reducible refine gate_dst (N := 4) rfl ?_); refine bxL 32 #[(.int .i64 0), (.int .i64 0), (.slice none 0 0)] HS ?_; clear HS; intro g_r w1 hg_r HS; have f1_ := HS.out.c 2 0 (v := .int .i64 (d : Int)) rfl rfl; have f2_ := HS.out.c 2 1 (v := .int .i64 (n : Int)) rfl rfl; have f3_ := HS.out.c 2 2 (v := .slice A l.length c) rfl rfl; have f4_ := HS.out.c 1 0 (v := .int .i64 (d : Int)) rfl rfl; have f5_ := HS.out.c 1 1 (v := .int .i64 (n : Int)) rfl rfl; have f6_ := HS.out.c 1 2 (v := .slice A2 l2.length cc) rfl rfl) | (go_at_call 147; clear tk3_; refine (HP.out _ (HS.out.oldC HR.out) (HS.out.oldC HR2.out)).mono ?_; rintro e_ w1 ⟨B, b, rfl, hs⟩; replace HS := sN1 HS hs; clear hs f1_ f2_ f3_ f4_ f5_ f6_) | ((with_reducible refine gate_dst (N := 6) rfl ?_); refine bxL 32 #[(.int .i64 0), (.int .i64 0), (.slice none 0 0)] HS ?_; clear HS; intro g_x w1 hg_x HS) | ((with_reducible refine gate_store (t := 32) (p := 6) rfl ?_); refine stL HS 0 0 #[.int .i64 (d : Int), .int .i64 (n : Int), .slice B p.length b] rfl rfl rfl rfl rfl ?_; clear HS; intro w1 HS; have f1_ := HS.out.c 3 0 (v := .int .i64 (d : Int)) rfl rfl; have f2_ := HS.out.c 3 1 (v := .int .i64 (n : Int)) rfl rfl; have f3_ := HS.out.c 3 2 (v := .slice A2 l2.length cc) rfl rfl; have f4_ := HS.out.c 4 0 (v := .int .i64 (d : Int)) rfl rfl; have f5_ := HS.out.c 4 1 (v := .int .i64 (n : Int)) rfl rfl; have f6_ := HS.out.c 4 2 (v := .slice A l.length c) rfl rfl) | (go_at_call 147; refine (HP2.out _ (HS.out.oldC HR.out) (HS.out.oldC HR2.out)).mono ?_; rintro e_ w1 ⟨B2, b2, rfl, hs⟩; replace HS := sN1 HS hs; clear hs f1_ f2_ f3_ f4_ f5_ f6_) | ((with_reducible refine gate_dst (N := 8) rfl ?_); refine bxL 32 #[(.int .i64 0), (.int .i64 0), (.slice none 0 0)] HS ?_; clear HS; intro g_y w1 hg_y HS) | ((with_reducible refine gate_store (t := 32) (p := 8) rfl ?_); refine stL HS 0 0 #[.int .i64 0, .int .i64 0, .slice B2 ([] : Ts).length b2] rfl rfl rfl rfl rfl ?_; clear HS; intro w1 HS) | ((with_reducible refine gate_store (t := 32) (p := 4) rfl ?_); refine stL HS 4 0 #[(.int .i64 0), (.int .i64 0), (.slice none 0 0)] rfl rfl rfl rfl rfl ?_; clear HS; intro w1 HS))
      refine bodyPost_ret (results_cell_tmp_row rfl _ _ g_r 32 #[(.int .i64 0), (.int .i64 0), (.slice none 0 0)] (0, 0) _ rfl (HS.out.at (i := 4) rfl) Try.underlying32 rfl (by kernel_rfl)) rfl ?_
      exact ⟨none, 0, rfl, nilS (HS.out.sel [] (by decide))⟩
    | some q =>
      have HA := Aside0.mk (fun B b B2 b2 W k1 k2 => specAddk d n hd hn B b p B2 b2 q (-1, 1) W k1 k2 (HT1.out p rfl) (HT2.out q rfl) (by decide) (by decide))
      obtain ⟨R, hR⟩ : ∃ R, R = resQ d n (addkS p q (-1, 1)) := ⟨_, rfl⟩
      rw [← hR] at HA
      rw [show resQ d n (two sumS (some p) ((some q).bind fun q => scS q (-1, 1))) = R from hR.symm]
      clear hR
      go_enter Try.func156, Try.ntmps156
      have tk4_ : True := trivial
      go_wp2_with (first | ((with_reducible refine gate_dst (N := 2) rfl ?_); refine bxL 32 #[.int .i64 (d : Int), .int .i64 (n : Int), .slice A l.length c] HS ?_; clear HS; intro g_p w1 hg_p HS) | ((with_reducible refine gate_dst (N := 3) rfl ?_); refine bxL 32 #[.int .i64 (d : Int), .int .i64 (n : Int), .slice A2 l2.length cc] HS ?_; clear HS; intro g_a w1 hg_a HS) | ((with_reducible refine gate_dst (N := 4) rfl ?_); refine bxL 32 #[(.int .i64 0), (.int .i64 0), (.slice none 0 0)] HS ?_; clear HS; intro g_r w1 hg_r HS; have f1_ := HS.out.c 2 0 (v := .int .i64 (d : Int)) rfl rfl; have f2_ := HS.out.c 2 1 (v := .int .i64 (n : Int)) rfl rfl; have f3_ := HS.out.c 2 2 (v := .slice A l.length c) rfl rfl; have f4_ := HS.out.c 1 0 (v := .int .i64 (d : Int)) rfl rfl; have f5_ := HS.out.c 1 1 (v := .int .i64 (n : Int)) rfl rfl; have f6_ := HS.out.c 1 2 (v := .slice A2 l2.length cc) rfl rfl) | (go_at_call 147; clear tk4_; refine (HP.out _ (HS.out.oldC HR.out) (HS.out.oldC HR2.out)).mono ?_; rintro e_ w1 ⟨B, b, rfl, hs⟩; replace HS := sN1 HS hs; clear hs f1_ f2_ f3_ f4_ f5_ f6_) | ((with_reducible refine gate_dst (N := 6) rfl ?_); refine bxL 32 #[(.int .i64 0), (.int .i64 0), (.slice none 0 0)] HS ?_; clear HS; intro g_x w1 hg_x HS) | ((with_reducible refine gate_store (t := 32) (p := 6) rfl ?_); refine stL HS 0 0 #[.int .i64 (d : Int), .int .i64 (n : Int), .slice B p.length b] rfl rfl rfl rfl rfl ?_; clear HS; intro w1 HS; have f1_ := HS.out.c 3 0 (v := .int .i64 (d : Int)) rfl rfl; have f2_ := HS.out.c 3 1 (v := .int .i64 (n : Int)) rfl rfl; have f3_ := HS.out.c 3 2 (v := .slice A2 l2.length cc) rfl rfl; have f4_ := HS.out.c 4 0 (v := .int .i64 (d : Int)) rfl rfl; have f5_ := HS.out.c 4 1 (v := .int .i64 (n : Int)) rfl rfl; have f6_ := HS.out.c 4 2 (v := .slice A l.length c) rfl rfl) | (go_at_call 147; refine (HP2.out _ (HS.out.oldC HR.out) (HS.out.oldC HR2.out)).mono ?_; rintro e_ w1 ⟨B2, b2, rfl, hs⟩; replace HS := sN1 HS hs; clear hs f1_ f2_ f3_ f4_ f5_ f6_) | ((with_reducible refine gate_dst (N := 8) rfl ?_); refine bxL 32 #[(.int .i64 0), (.int .i64 0), (.slice none 0 0)] HS ?_; clear HS; intro g_y w1 hg_y HS) | ((with_reducible refine gate_store (t := 32) (p := 8) rfl ?_); refine stL HS 0 0 #[.int .i64 (d : Int), .int .i64 (n : Int), .slice B2 q.length b2] rfl rfl rfl rfl rfl ?_; clear HS; intro w1 HS))
      replace HS := sD HS
      apply region_told ((fun (A0_ : Option Addr → Nat → Nat → Act) (a' : Act) (w' : World) => ∃ (B3 : Option Addr) (b3 : Nat) (g_z : Nat), a' = A0_ B3 b3 g_z ∧ Aside0 (Mod w w' No [bx g_z 32 #[.int .i64 R.1, .int .i64 R.2.1, .slice B3 R.2.2.1.length b3], rowT B3 b3 R.2.2.1, bx g_y 32 #[.int .i64 (d : Int), .int .i64 (n : Int), .slice B2 q.length b2], rowT B2 b2 q, bx g_x 32 #[.int .i64 (d : Int), .int .i64 (n : Int), .slice B p.length b], rowT B b p, bx g_r 32 #[(.int .i64 0), (.int .i64 0), (.slice none 0 0)], bx g_a 32 #[.int .i64 (d : Int), .int .i64 (n : Int), .slice A2 l2.length cc], bx g_p 32 #[.int .i64 (d : Int), .int .i64 (n : Int), .slice A l.length c]])) _)
      case h1 =>
        refine ps (.t 0 (.t 1 (.two 2 7 (.two 3 7 (.p 4 (.p 5 (.p 6 (.e 7 (.d 8 (.p 9 .done)))))) (.e 3 (.p 4 (.p 5 (.p 6 (.d 8 (.p 9 .done))))))) (.e 2 (.e 3 (.p 4 (.p 5 (.p 6 (.d 8 (.p 9 .done)))))))))) (fun w' => w'.cell? ⟨g_x, 0, none⟩ = some (.int .i64 (d : Int)) ∧ w'.cell? ⟨g_x, 1, none⟩ = some (.int .i64 (n : Int)) ∧ w'.cell? ⟨g_x, 2, none⟩ = some (.slice B p.length b) ∧ w'.cell? ⟨g_y, 0, none⟩ = some (.int .i64 (d : Int)) ∧ w'.cell? ⟨g_y, 1, none⟩ = some (.int .i64 (n : Int)) ∧ w'.cell? ⟨g_y, 2, none⟩ = some (.slice B2 q.length b2)) [8] ⟨HS.out.c 2 0 (v := .int .i64 (d : Int)) rfl rfl, HS.out.c 2 1 (v := .int .i64 (n : Int)) rfl rfl, HS.out.c 2 2 (v := .slice B p.length b) rfl rfl, HS.out.c 0 0 (v := .int .i64 (d : Int)) rfl rfl, HS.out.c 0 1 (v := .int .i64 (n : Int)) rfl rfl, HS.out.c 0 2 (v := .slice B2 q.length b2) rfl rfl⟩ (fun hHeld => ?_)
        repeat (first | ((with_reducible refine gate_p ?_); refine rp rfl rfl ?_) | ((with_reducible refine gate_t ?_); refine rt rfl rfl hHeld ?_))
        refine run_two ?_ ?_
        · skip
          refine run_e rfl (fun K hK => ?_)
          refine gc Try.func162 (specOne (-1) _) rfl rfl ?_
          rintro e_ w1 ⟨rfl, hb⟩
          refine ⟨_, rfl, ?_⟩
          replace HS := sB HS hb
          refine ge hK ⟨HS.out.c 2 0 (v := .int .i64 (d : Int)) rfl rfl, HS.out.c 2 1 (v := .int .i64 (n : Int)) rfl rfl, HS.out.c 2 2 (v := .slice B p.length b) rfl rfl, HS.out.c 0 0 (v := .int .i64 (d : Int)) rfl rfl, HS.out.c 0 1 (v := .int .i64 (n : Int)) rfl rfl, HS.out.c 0 2 (v := .slice B2 q.length b2) rfl rfl⟩ (fun hHeld => ?_)
          refine run_two ?_ ?_
          · skip
            refine run_e rfl (fun K hK => ?_)
            refine gc Try.func199 (HA.out B b B2 b2 _ (HS.out.reads 3 rfl) (HS.out.reads 1 rfl)) rfl rfl ?_
            rintro e_ w1 ⟨B3, b3, rfl, hs⟩
            refine ⟨_, rfl, ?_⟩
            replace HS := sN1 HS hs
            refine ge hK ⟨HS.out.c 3 0 (v := .int .i64 (d : Int)) rfl rfl, HS.out.c 3 1 (v := .int .i64 (n : Int)) rfl rfl, HS.out.c 3 2 (v := .slice B p.length b) rfl rfl, HS.out.c 1 0 (v := .int .i64 (d : Int)) rfl rfl, HS.out.c 1 1 (v := .int .i64 (n : Int)) rfl rfl, HS.out.c 1 2 (v := .slice B2 q.length b2) rfl rfl⟩ (fun hHeld => ?_)
            repeat (first | ((with_reducible refine gate_p ?_); refine rp rfl rfl ?_) | ((with_reducible refine gate_t ?_); refine rt rfl rfl hHeld ?_))
            refine run_e rfl (fun K hK => ?_)
            refine bx1 32 #[(.int .i64 0), (.int .i64 0), (.slice none 0 0)] HS ?_
            intro g_z w1 hg_z HS
            refine ge hK ⟨HS.out.c 4 0 (v := .int .i64 (d : Int)) rfl rfl, HS.out.c 4 1 (v := .int .i64 (n : Int)) rfl rfl, HS.out.c 4 2 (v := .slice B p.length b) rfl rfl, HS.out.c 2 0 (v := .int .i64 (d : Int)) rfl rfl, HS.out.c 2 1 (v := .int .i64 (n : Int)) rfl rfl, HS.out.c 2 2 (v := .slice B2 q.length b2) rfl rfl⟩ (fun hHeld => ?_)
            refine run_d rfl (fun K hK => ?_)
            refine st1 HS 0 0 #[.int .i64 R.1, .int .i64 R.2.1, .slice B3 R.2.2.1.length b3] rfl rfl rfl rfl rfl ?_
            intro w1 HS
            refine goD hK rfl ?_
            repeat (first | ((with_reducible refine gate_p ?_); refine rp rfl rfl ?_) | ((with_reducible refine gate_t ?_); refine rt rfl rfl hHeld ?_))
            refine run_done ?_
            exact ⟨B3, b3, g_z, rfl, HS⟩
          · skip
            refine run_e rfl (fun K hK => ?_)
            refine bx1 32 #[(.int .i64 0), (.int .i64 0), (.slice none 0 0)] HS ?_
            intro g_z w1 hg_z HS
            refine ge hK ⟨HS.out.c 3 0 (v := .int .i64 (d : Int)) rfl rfl, HS.out.c 3 1 (v := .int .i64 (n : Int)) rfl rfl, HS.out.c 3 2 (v := .slice B p.length b) rfl rfl, HS.out.c 1 0 (v := .int .i64 (d : Int)) rfl rfl, HS.out.c 1 1 (v := .int .i64 (n : Int)) rfl rfl, HS.out.c 1 2 (v := .slice B2 q.length b2) rfl rfl⟩ (fun hHeld => ?_)
            refine run_e rfl (fun K hK => ?_)
            refine gc Try.func199 (HA.out B b B2 b2 _ (HS.out.reads 4 rfl) (HS.out.reads 2 rfl)) rfl rfl ?_
            rintro e_ w1 ⟨B3, b3, rfl, hs⟩
            refine ⟨_, rfl, ?_⟩
            replace HS := sN1 HS hs
            refine ge hK ⟨HS.out.c 4 0 (v := .int .i64 (d : Int)) rfl rfl, HS.out.c 4 1 (v := .int .i64 (n : Int)) rfl rfl, HS.out.c 4 2 (v := .slice B p.length b) rfl rfl, HS.out.c 2 0 (v := .int .i64 (d : Int)) rfl rfl, HS.out.c 2 1 (v := .int .i64 (n : Int)) rfl rfl, HS.out.c 2 2 (v := .slice B2 q.length b2) rfl rfl⟩ (fun hHeld => ?_)
            repeat (first | ((with_reducible refine gate_p ?_); refine rp rfl rfl ?_) | ((with_reducible refine gate_t ?_); refine rt rfl rfl hHeld ?_))
            refine run_d rfl (fun K hK => ?_)
            refine st1 HS 1 0 #[.int .i64 R.1, .int .i64 R.2.1, .slice B3 R.2.2.1.length b3] rfl rfl rfl rfl rfl ?_
            intro w1 HS
            refine goD hK rfl ?_
            repeat (first | ((with_reducible refine gate_p ?_); refine rp rfl rfl ?_) | ((with_reducible refine gate_t ?_); refine rt rfl rfl hHeld ?_))
            refine run_done ?_
            have n_ := HS.out.sel [1, 0, 2, 3, 4, 5, 6, 7, 8] (by decide)
            simp only [List.filterMap_cons, List.filterMap_nil, List.getElem?_cons_zero, List.getElem?_cons_succ] at n_
            exact ⟨B3, b3, g_z, rfl, ⟨n_⟩⟩
        · skip
          refine run_e rfl (fun K hK => ?_)
          refine bx1 32 #[(.int .i64 0), (.int .i64 0), (.slice none 0 0)] HS ?_
          intro g_z w1 hg_z HS
          refine ge hK ⟨HS.out.c 3 0 (v := .int .i64 (d : Int)) rfl rfl, HS.out.c 3 1 (v := .int .i64 (n : Int)) rfl rfl, HS.out.c 3 2 (v := .slice B p.length b) rfl rfl, HS.out.c 1 0 (v := .int .i64 (d : Int)) rfl rfl, HS.out.c 1 1 (v := .int .i64 (n : Int)) rfl rfl, HS.out.c 1 2 (v := .slice B2 q.length b2) rfl rfl⟩ (fun hHeld => ?_)
          refine run_e rfl (fun K hK => ?_)
          refine gc Try.func162 (specOne (-1) _) rfl rfl ?_
          rintro e_ w1 ⟨rfl, hb⟩
          refine ⟨_, rfl, ?_⟩
          replace HS := sB HS hb
          refine ge hK ⟨HS.out.c 3 0 (v := .int .i64 (d : Int)) rfl rfl, HS.out.c 3 1 (v := .int .i64 (n : Int)) rfl rfl, HS.out.c 3 2 (v := .slice B p.length b) rfl rfl, HS.out.c 1 0 (v := .int .i64 (d : Int)) rfl rfl, HS.out.c 1 1 (v := .int .i64 (n : Int)) rfl rfl, HS.out.c 1 2 (v := .slice B2 q.length b2) rfl rfl⟩ (fun hHeld => ?_)
          refine run_e rfl (fun K hK => ?_)
          refine gc Try.func199 (HA.out B b B2 b2 _ (HS.out.reads 4 rfl) (HS.out.reads 2 rfl)) rfl rfl ?_
          rintro e_ w1 ⟨B3, b3, rfl, hs⟩
          refine ⟨_, rfl, ?_⟩
          replace HS := sN1 HS hs
          refine ge hK ⟨HS.out.c 4 0 (v := .int .i64 (d : Int)) rfl rfl, HS.out.c 4 1 (v := .int .i64 (n : Int)) rfl rfl, HS.out.c 4 2 (v := .slice B p.length b) rfl rfl, HS.out.c 2 0 (v := .int .i64 (d : Int)) rfl rfl, HS.out.c 2 1 (v := .int .i64 (n : Int)) rfl rfl, HS.out.c 2 2 (v := .slice B2 q.length b2) rfl rfl⟩ (fun hHeld => ?_)
          repeat (first | ((with_reducible refine gate_p ?_); refine rp rfl rfl ?_) | ((with_reducible refine gate_t ?_); refine rt rfl rfl hHeld ?_))
          refine run_d rfl (fun K hK => ?_)
          refine st1 HS 1 0 #[.int .i64 R.1, .int .i64 R.2.1, .slice B3 R.2.2.1.length b3] rfl rfl rfl rfl rfl ?_
          intro w1 HS
          refine goD hK rfl ?_
          repeat (first | ((with_reducible refine gate_p ?_); refine rp rfl rfl ?_) | ((with_reducible refine gate_t ?_); refine rt rfl rfl hHeld ?_))
          refine run_done ?_
          have n_ := HS.out.sel [1, 0, 2, 3, 4, 5, 6, 7, 8] (by decide)
          simp only [List.filterMap_cons, List.filterMap_nil, List.getElem?_cons_zero, List.getElem?_cons_succ] at n_
          exact ⟨B3, b3, g_z, rfl, ⟨n_⟩⟩
      clear HS
      rintro a_ w1 ⟨B3, b3, g_z, rfl, HS⟩
      have f1_ := HS.out.c 0 0 (v := .int .i64 R.1) rfl rfl
      have f2_ := HS.out.c 0 1 (v := .int .i64 R.2.1) rfl rfl
      have f3_ := HS.out.c 0 2 (v := .slice B3 R.2.2.1.length b3) rfl rfl
      go_wp2_with (first | ((with_reducible refine gate_store (t := 32) (p := 4) rfl ?_); refine stL HS 6 0 #[.int .i64 R.1, .int .i64 R.2.1, .slice B3 R.2.2.1.length b3] rfl rfl rfl rfl rfl ?_; clear HS f1_ f2_ f3_; intro w1 HS))
      refine bodyPost_ret (results_cell_tmp_row rfl _ _ g_r 32 #[.int .i64 R.1, .int .i64 R.2.1, .slice B3 R.2.2.1.length b3] (0, 0) _ rfl (HS.out.at (i := 6) rfl) Try.underlying32 rfl (by kernel_rfl)) rfl ?_
      exact ⟨B3, b3, rfl, HS.out.sel [1] (by decide)⟩
end Go.Proofs.Ytcklblagklojhaa.H

