/- Inverses of series: what the program and the reference return. Conditions: the bounds that stand in each statement. -/
import Derived.Test.YtcklblagklojhaaKPws
import Derived.Test.YtcklblagklojhaaKLess
import Derived.Test.YtcklblagklojhaaKSign
namespace Go.Proofs.Ytcklblagklojhaa.M
theorem over_red {a : Fr} (h : fr a = true) (h0 : a.1 ≠ 0) : rnum a.2 a.1 = (overF a).1 ∧ rden a.2 a.1 = (overF a).2 ∧ okN a.2 a.1 = true := by
  have h1 := (over_div h h0).1
  unfold frac at h1
  split at h1
  · rename_i hh
    injection h1 with h1
    rw [← h1]
    exact ⟨rfl, rfl, hh.2⟩
  · cases h1
theorem over_ne {a : Fr} (h : fr a = true) (h0 : a.1 ≠ 0) : (overF a).1 ≠ 0 := by
  have := fr_den h
  unfold overF
  split
  · show -a.2 ≠ 0; omega
  · show a.2 ≠ 0; omega
theorem div_one {a : Fr} (h : fr a = true) (h0 : a.1 ≠ 0) : div (1, 1) a = some (overF a) := by
  unfold div
  rw [Int.one_mul, Int.one_mul]
  exact (over_div h h0).1
theorem inv_at (k : Nat) : ((sgI k, 1) : Fr) = invC k := rfl
def invR (d n : Int) (l : Ts) : Rs := if isS d n l = true then if (co l eps).1 = 0 then noS 5 else resO d n (invS d.toNat n.toNat l) else noS 1
theorem inv_ts {d n : Nat} (hd : d ≤ 9) {l p : Ts} (hl : isTs d n l = true) (h0 : (co l eps).1 ≠ 0) (h : invS d n l = some p) : isTs d n p = true := by
  unfold invS at h
  cases ho : outO d n ((scS l (overF (co l eps))).bind lessS) invC (n + 1) with
  | none => rw [ho] at h; cases h
  | some z =>
    rw [ho] at h
    exact scale_ts hd (out_ts hd invC_fr ho) (over_div (co_fr hl eps) h0).2 h
theorem inv_len {d n : Int} {l : Ts} : (invR d n l).2.2.1.length ≤ 1048576 := by
  unfold invR
  split
  · rename_i h
    obtain ⟨⟨e1, e2⟩, ⟨e3, e4⟩, _⟩ := lev_iff.1 (isS_l h)
    split
    · show (0 : Nat) ≤ _; decide
    · exact resO_len' (by omega) (by omega) fun p hp => inv_ts (by omega) (isS_t h) (by assumption) hp
  · show (0 : Nat) ≤ _; decide
end Go.Proofs.Ytcklblagklojhaa.M
namespace Go.Proofs.Ytcklblagklojhaa.H
open Go.RowKit Go.Proofs.YtcklblagklojhaaW.PrintWords Go.Proofs.YtcklblagklojhaaW.PrintLast Go.Proofs.YtcklblagklojhaaW.PrintMore Go.Proofs.Ytcklblagklojhaa.M
attribute [local go_sem] max2_int min2_int max_two min_two max_three min_three max_four min_four resQ
set_option linter.unusedVariables false
set_option linter.unusedSimpArgs false
set_option maxRecDepth 100000
theorem implInv1 (k : Nat) (hk : k ≤ 5) (w : World) : Calls Try.prog 168 #[.int .i64 (k : Int)] w fun e w' => e = .returned (.agg #[.int .i64 (invC k).1, .int .i64 (invC k).2]) ∧ Below w.heap.size w w' := by
  have HS := Aside0.mk (Sep.refl w)
  go_enter Try.func168, Try.ntmps168
  go_wp2_with (first | ((with_reducible refine gate_dst (N := 2) rfl ?_); refine bxL 24 #[(.int .i64 0), (.int .i64 0)] HS ?_; clear HS; intro g_r w1 hg_r HS) | (go_at_call 169; refine (implSign k (by omega) _).mono ?_; rintro e_ w1 ⟨rfl, hb⟩; replace HS := sB HS hb; clear hb) | (go_at_call 104; refine (implWhole (sgI k) _).mono ?_; rintro e_ w1 ⟨rfl, hb⟩; replace HS := sB HS hb; clear hb) | ((with_reducible refine gate_store (t := 24) (p := 2) rfl ?_); refine stL HS 0 0 #[.int .i64 (sgI k), .int .i64 1] rfl rfl rfl rfl rfl ?_; clear HS; intro w1 HS))
  refine bodyPost_ret (results_cell_row rfl _ _ g_r 24 #[.int .i64 (sgI k), .int .i64 1] (0, 0) _ rfl (HS.out.at (i := 0) rfl) Try.underlying24 rfl (by kernel_rfl)) rfl ?_
  exact ⟨by rw [← inv_at], HS.out.below⟩
set_option maxHeartbeats 8000000 in
theorem tabPowers_inv {w : World} {d n g v : Nat} {F : Tb} {o : Option Ts} (hl : lev d n = true) (h : TabI w g v d n F o) :
    Calls Try.prog 167 #[.pointer (some ⟨g, 0, none⟩), .int .i64 0, .func (.func 168) #[] #[]] w (RetT w d n (outO d n o invC (n + 1))) := by
  obtain ⟨hd1, hd3, hn1, hn5⟩ := lev_bd hl
  have HL := Aside0.mk hl
  have H1 := Aside0.mk h
  have HT := Aside0.mk h.2.2.1
  have HS := Aside0.mk (Sep.refl w)
  have HPP := Aside0.mk (fun k (h : 0 < k) => (by obtain ⟨j, rfl⟩ : ∃ j, k = j + 1 := ⟨k - 1, by omega⟩; rfl : two (mulS d n) (powO d n o (k - 1)) o = powO d n o k))
  have HOS := Aside0.mk (fun k => outO_step (d := d) (n := n) (o := o) (c := invC) (k := k) (invC_ne k))
  clear hl h
  go_enter Try.func167, Try.ntmps167
  go_wp2_with (first | (go_at_call 184; refine (tabLike HL.out (H1.out.old HS.out)).mono ?_; rintro e_ w1 ⟨go, vo, Fo, rfl, hF, hQ, hs⟩; replace HS := sN2 HS hs; clear hs; have HFo := Aside0.mk hF; have HQo := Aside0.mk hQ; clear hF hQ) | (go_at_call 115; refine (tabUnit HL.out (H1.out.old HS.out)).mono ?_; rintro e_ w1 ⟨gp, vp, Fp, rfl, hF, hQ, hs⟩; replace HS := sN2 HS hs; clear hs; have HFp := Aside0.mk hF; have HQp := Aside0.mk hQ; clear hF hQ; have f1_ := bx_c (HS.out.oldI HT.out) 1 (v := .int .i64 (n : Int)) rfl))
  go_loopw [7, 8, 19] (fun x y q w' => ∃ (k go vo : Nat) (Fo : Tb) (gp vp : Nat) (Fp : Tb), k ≤ n + 1 ∧ q = .int .i64 (k : Int) ∧ x = .pointer (some ⟨go, 0, none⟩) ∧ y = .pointer (some ⟨gp, 0, none⟩) ∧ Aside0 (good Fo.1) ∧ Aside0 (Rel d n (outO d n o invC k) Fo) ∧ Aside0 (good Fp.1) ∧ Aside0 (Rel d n (powO d n o (k - 1)) Fp) ∧ Aside0 (Mod w w' No [tS gp vp d n (nW d n) Fp.2, tV vp d n Fp.1, tS go vo d n (nW d n) Fo.2, tV vo d n Fo.1])) (fun _ _ q _ => n + 1 - (intOf q).toNat)
  case atStart => exact ⟨0, go, vo, Fo, gp, vp, Fp, by omega, rfl, rfl, rfl, HFo, HQo, HFp, HQp, HS⟩
  case round =>
    clear HS HFo HQo HFp HQp
    obtain ⟨k, go, vo, Fo, gp, vp, Fp, hk, rfl, rfl, rfl, HFo, HQo, HFp, HQp, HS⟩ := hrel
    by_cases hlt : k < n + 1
    · by_cases h0 : 0 < k
      · have hpk := HPP.out k h0
        have HON := Aside0.mk (HOS.out k)
        go_wp2_with (first | (go_at_call 148; refine (tabTimes HL.out ⟨HFp.out, HQp.out, HS.out.at (i := 0) rfl, HS.out.at (i := 1) rfl⟩ (H1.out.old HS.out)).mono ?_; rintro e_ w1 ⟨gb, vb, Fb, rfl, hF, hQ, hs⟩; replace HS := sN2 HS hs; clear hs; have HFb := Aside0.mk hF; have HQb := Aside0.mk (hpk ▸ hQ); clear hF hQ) | (go_at_call 168; refine (implInv1 k (by omega) _).mono ?_; rintro e_ w1 ⟨rfl, hb⟩; replace HS := sB HS hb; clear hb) | (go_at_call 140; refine (tabScaled HL.out ⟨HFb.out, HQb.out, HS.out.at (i := 0) rfl, HS.out.at (i := 1) rfl⟩ (invC_fr k)).mono ?_; rintro e_ w1 ⟨gc, vc, Fc, rfl, hF, hQ, hs⟩; replace HS := sN2 HS hs; clear hs; have HFc := Aside0.mk hF; have HQc := Aside0.mk hQ; clear hF hQ) | (go_at_call 146; refine (tabSum HL.out ⟨HFo.out, HQo.out, HS.out.at (i := 6) rfl, HS.out.at (i := 7) rfl⟩ ⟨HFc.out, HQc.out, HS.out.at (i := 0) rfl, HS.out.at (i := 1) rfl⟩).mono ?_; rintro e_ w1 ⟨gd, vd, Fd, rfl, hF, hQ, hs⟩; replace HS := sN2 HS hs; clear hs; have HFd := Aside0.mk hF; have HQd := Aside0.mk hQ; clear hF hQ))
        go_roundw
        case rel => exact ⟨k + 1, gd, vd, Fd, gb, vb, Fb, by omega, by go_num, rfl, rfl, HFd, ⟨HON.out ▸ HQd.out⟩, HFb, HQb, sX HS [4, 5, 0, 1]⟩
        case measure => simp [intOf]; omega
      · have HP0 := Aside0.mk (show powO d n o (k - 1) = powO d n o k by rw [show k - 1 = k by omega])
        have HK0 := Aside0.mk (show k = 0 by omega)
        rw [HP0.out] at HQp
        have HON := Aside0.mk (HOS.out k)
        go_wp2_with (first | (go_at_call 168; refine (implInv1 k (by omega) _).mono ?_; rintro e_ w1 ⟨rfl, hb⟩; replace HS := sB HS hb; clear hb) | (go_at_call 140; refine (tabScaled HL.out ⟨HFp.out, HQp.out, HS.out.at (i := 0) rfl, HS.out.at (i := 1) rfl⟩ (invC_fr k)).mono ?_; rintro e_ w1 ⟨gc, vc, Fc, rfl, hF, hQ, hs⟩; replace HS := sN2 HS hs; clear hs; have HFc := Aside0.mk hF; have HQc := Aside0.mk hQ; clear hF hQ) | (go_at_call 146; refine (tabSum HL.out ⟨HFo.out, HQo.out, HS.out.at (i := 4) rfl, HS.out.at (i := 5) rfl⟩ ⟨HFc.out, HQc.out, HS.out.at (i := 0) rfl, HS.out.at (i := 1) rfl⟩).mono ?_; rintro e_ w1 ⟨gd, vd, Fd, rfl, hF, hQ, hs⟩; replace HS := sN2 HS hs; clear hs; have HFd := Aside0.mk hF; have HQd := Aside0.mk hQ; clear hF hQ))
        go_roundw
        case rel => exact ⟨k + 1, gd, vd, Fd, gp, vp, Fp, by omega, by go_num, rfl, rfl, HFd, ⟨HON.out ▸ HQd.out⟩, HFp, HQp, sX HS [4, 5, 0, 1]⟩
        case measure => simp [intOf]; omega
    · obtain rfl : k = n + 1 := by omega
      go_wp2
      go_ret
      exact ⟨go, vo, Fo, rfl, HFo.out, HQo.out, HS.out.sel [2, 3] (by decide)⟩
set_option maxHeartbeats 8000000 in
theorem specInvQ (d n : Nat) (hd : d ≤ 3) (hn1 : 1 ≤ n) (hn : n ≤ 5) (A : Option Addr) (c : Nat) (l : Ts) (w : World) (hr : KT.C w A l.length l) (hc : l.length ≤ c) (hx : isTs d n l = true) (h0 : (co l eps).1 ≠ 0) :
    Calls Try.prog 165 #[.agg #[.int .i64 (d : Int), .int .i64 (n : Int), .slice A l.length c]] w (RetQ w (resQ d n (invS d n l))) := by
  have hd9 : d ≤ 9 := by omega
  have HR := Aside0.mk hr
  have hfe := co_fr hx eps
  have HCN := Aside0.mk (fun W k1 => specConstant d n A c l W k1 hc (isTs_bnd hd hn hx))
  unfold invS
  obtain ⟨e, he⟩ : ∃ e : Fr, e = co l eps := ⟨_, rfl⟩
  rw [← he] at HCN h0 hfe
  rw [← he]
  have hqf := (over_div hfe h0).2
  have hq0 := over_ne hfe h0
  have HOV := Aside0.mk (fun W => div_one hfe h0 ▸ specOver 1 1 e.1 e.2 W ⟨by omega, by omega, by omega, by omega⟩ (fr_small hfe))
  obtain ⟨q, hq⟩ : ∃ q, q = overF e := ⟨_, rfl⟩
  rw [← hq] at hqf hq0 HOV
  rw [← hq]
  have HLQ := Aside0.mk (fun W k1 => specLessQ d n hd hn A c l q W k1 hx hqf hq0)
  have HY0 := Aside0.mk (fun y (h : (scS l q).bind lessS = some y) => (by
    cases hs : scS l q with
    | none => rw [hs] at h; cases h
    | some z => rw [hs] at h; exact less_ts hd9 (scale_ts hd9 hx hqf hs) h : isTs d n y = true))
  have HAK := Aside0.mk (fun B b B2 b2 z W k1 k2 (k3 : isTs d n z = true) => addk_nil hd9 k3 hqf ▸ specAddk d n hd hn B b [] B2 b2 z q W k1 k2 (isTs_nil d n) k3 hqf hq0)
  obtain ⟨o, ho⟩ : ∃ o, o = (scS l q).bind lessS := ⟨_, rfl⟩
  rw [← ho] at HLQ HY0
  rw [← ho]
  have HS := Aside0.mk (Sep.refl w)
  clear hr hx ho hq he h0 hfe hqf hq0
  cases o with
  | none =>
    rw [outO_none (show 2 ≤ n + 1 by omega)]
    go_enter Try.func165, Try.ntmps165
    go_wp2_with (first | ((with_reducible refine gate_dst (N := 1) rfl ?_); refine bxL 32 #[.int .i64 (d : Int), .int .i64 (n : Int), .slice A l.length c] HS ?_; clear HS; intro g_p w1 hg_p HS) | ((with_reducible refine gate_dst (N := 2) rfl ?_); refine bxL 32 #[(.int .i64 0), (.int .i64 0), (.slice none 0 0)] HS ?_; clear HS; intro g_r w1 hg_r HS; have f1_ := HS.out.c 1 0 (v := .int .i64 (d : Int)) rfl rfl; have f2_ := HS.out.c 1 1 (v := .int .i64 (n : Int)) rfl rfl; have f3_ := HS.out.c 1 2 (v := .slice A l.length c) rfl rfl) | (go_at_call 122; refine (HCN.out _ (HS.out.oldC HR.out)).mono ?_; rintro e_ w1 ⟨rfl, hb⟩; replace HS := sB HS hb; clear hb f1_ f2_ f3_) | ((with_reducible refine gate_dst (N := 4) rfl ?_); refine bxL 24 #[(.int .i64 0), (.int .i64 0)] HS ?_; clear HS; intro g_cc w1 hg_cc HS) | ((with_reducible refine gate_store (t := 24) (p := 4) rfl ?_); refine stL HS 0 0 #[.int .i64 e.1, .int .i64 e.2] rfl rfl rfl rfl rfl ?_; clear HS; intro w1 HS))
    replace HS := sD HS
    apply region_told ((fun (A0_ : Nat → Act) (a' : Act) (w' : World) => ∃ (g_bk : Nat), a' = A0_ g_bk ∧ Aside0 (Mod w w' No [bx g_bk 24 #[.int .i64 q.1, .int .i64 q.2], bx g_cc 24 #[.int .i64 e.1, .int .i64 e.2], bx g_r 32 #[(.int .i64 0), (.int .i64 0), (.slice none 0 0)], bx g_p 32 #[.int .i64 (d : Int), .int .i64 (n : Int), .slice A l.length c]])) _)
    case h1 =>
      refine ps (.t 1 (.two 0 6 (.two 2 6 (.p 3 (.p 4 (.p 5 (.e 6 (.d 7 (.p 8 .done)))))) (.e 2 (.p 3 (.p 4 (.p 5 (.d 7 (.p 8 .done))))))) (.e 0 (.e 2 (.p 3 (.p 4 (.p 5 (.d 7 (.p 8 .done))))))))) (fun w' => w'.cell? ⟨g_cc, 0, none⟩ = some (.int .i64 e.1) ∧ w'.cell? ⟨g_cc, 1, none⟩ = some (.int .i64 e.2)) [7] ⟨HS.out.c 0 0 (v := .int .i64 e.1) rfl rfl, HS.out.c 0 1 (v := .int .i64 e.2) rfl rfl⟩ (fun hHeld => ?_)
      repeat (first | ((with_reducible refine gate_p ?_); refine rp rfl rfl ?_) | ((with_reducible refine gate_t ?_); refine rt rfl rfl hHeld ?_))
      refine run_two ?_ ?_
      · skip
        refine run_e rfl (fun K hK => ?_)
        refine gc Try.func162 (specOne 1 _) rfl rfl ?_
        rintro e_ w1 ⟨rfl, hb⟩
        refine ⟨_, rfl, ?_⟩
        replace HS := sB HS hb
        refine ge hK ⟨HS.out.c 0 0 (v := .int .i64 e.1) rfl rfl, HS.out.c 0 1 (v := .int .i64 e.2) rfl rfl⟩ (fun hHeld => ?_)
        refine run_two ?_ ?_
        · skip
          refine run_e rfl (fun K hK => ?_)
          refine gc Try.func94 (HOV.out _) rfl rfl ?_
          rintro e_ w1 ⟨rfl, hb⟩
          refine ⟨_, rfl, ?_⟩
          replace HS := sB HS hb
          refine ge hK ⟨HS.out.c 0 0 (v := .int .i64 e.1) rfl rfl, HS.out.c 0 1 (v := .int .i64 e.2) rfl rfl⟩ (fun hHeld => ?_)
          repeat (first | ((with_reducible refine gate_p ?_); refine rp rfl rfl ?_) | ((with_reducible refine gate_t ?_); refine rt rfl rfl hHeld ?_))
          refine run_e rfl (fun K hK => ?_)
          refine bx1 24 #[(.int .i64 0), (.int .i64 0)] HS ?_
          intro g_bk w1 hg_bk HS
          refine ge hK ⟨HS.out.c 1 0 (v := .int .i64 e.1) rfl rfl, HS.out.c 1 1 (v := .int .i64 e.2) rfl rfl⟩ (fun hHeld => ?_)
          refine run_d rfl (fun K hK => ?_)
          refine st1 HS 0 0 #[.int .i64 q.1, .int .i64 q.2] rfl rfl rfl rfl rfl ?_
          intro w1 HS
          refine goD hK rfl ?_
          repeat (first | ((with_reducible refine gate_p ?_); refine rp rfl rfl ?_) | ((with_reducible refine gate_t ?_); refine rt rfl rfl hHeld ?_))
          refine run_done ?_
          exact ⟨g_bk, rfl, HS⟩
        · skip
          refine run_e rfl (fun K hK => ?_)
          refine bx1 24 #[(.int .i64 0), (.int .i64 0)] HS ?_
          intro g_bk w1 hg_bk HS
          refine ge hK ⟨HS.out.c 1 0 (v := .int .i64 e.1) rfl rfl, HS.out.c 1 1 (v := .int .i64 e.2) rfl rfl⟩ (fun hHeld => ?_)
          refine run_e rfl (fun K hK => ?_)
          refine gc Try.func94 (HOV.out _) rfl rfl ?_
          rintro e_ w1 ⟨rfl, hb⟩
          refine ⟨_, rfl, ?_⟩
          replace HS := sB HS hb
          refine ge hK ⟨HS.out.c 1 0 (v := .int .i64 e.1) rfl rfl, HS.out.c 1 1 (v := .int .i64 e.2) rfl rfl⟩ (fun hHeld => ?_)
          repeat (first | ((with_reducible refine gate_p ?_); refine rp rfl rfl ?_) | ((with_reducible refine gate_t ?_); refine rt rfl rfl hHeld ?_))
          refine run_d rfl (fun K hK => ?_)
          refine st1 HS 0 0 #[.int .i64 q.1, .int .i64 q.2] rfl rfl rfl rfl rfl ?_
          intro w1 HS
          refine goD hK rfl ?_
          repeat (first | ((with_reducible refine gate_p ?_); refine rp rfl rfl ?_) | ((with_reducible refine gate_t ?_); refine rt rfl rfl hHeld ?_))
          refine run_done ?_
          have n_ := HS.out.sel [0, 1, 2, 3] (by decide)
          simp only [List.filterMap_cons, List.filterMap_nil, List.getElem?_cons_zero, List.getElem?_cons_succ] at n_
          exact ⟨g_bk, rfl, ⟨n_⟩⟩
      · skip
        refine run_e rfl (fun K hK => ?_)
        refine bx1 24 #[(.int .i64 0), (.int .i64 0)] HS ?_
        intro g_bk w1 hg_bk HS
        refine ge hK ⟨HS.out.c 1 0 (v := .int .i64 e.1) rfl rfl, HS.out.c 1 1 (v := .int .i64 e.2) rfl rfl⟩ (fun hHeld => ?_)
        refine run_e rfl (fun K hK => ?_)
        refine gc Try.func162 (specOne 1 _) rfl rfl ?_
        rintro e_ w1 ⟨rfl, hb⟩
        refine ⟨_, rfl, ?_⟩
        replace HS := sB HS hb
        refine ge hK ⟨HS.out.c 1 0 (v := .int .i64 e.1) rfl rfl, HS.out.c 1 1 (v := .int .i64 e.2) rfl rfl⟩ (fun hHeld => ?_)
        refine run_e rfl (fun K hK => ?_)
        refine gc Try.func94 (HOV.out _) rfl rfl ?_
        rintro e_ w1 ⟨rfl, hb⟩
        refine ⟨_, rfl, ?_⟩
        replace HS := sB HS hb
        refine ge hK ⟨HS.out.c 1 0 (v := .int .i64 e.1) rfl rfl, HS.out.c 1 1 (v := .int .i64 e.2) rfl rfl⟩ (fun hHeld => ?_)
        repeat (first | ((with_reducible refine gate_p ?_); refine rp rfl rfl ?_) | ((with_reducible refine gate_t ?_); refine rt rfl rfl hHeld ?_))
        refine run_d rfl (fun K hK => ?_)
        refine st1 HS 0 0 #[.int .i64 q.1, .int .i64 q.2] rfl rfl rfl rfl rfl ?_
        intro w1 HS
        refine goD hK rfl ?_
        repeat (first | ((with_reducible refine gate_p ?_); refine rp rfl rfl ?_) | ((with_reducible refine gate_t ?_); refine rt rfl rfl hHeld ?_))
        refine run_done ?_
        have n_ := HS.out.sel [0, 1, 2, 3] (by decide)
        simp only [List.filterMap_cons, List.filterMap_nil, List.getElem?_cons_zero, List.getElem?_cons_succ] at n_
        exact ⟨g_bk, rfl, ⟨n_⟩⟩
    clear HS
    rintro a_ w1 ⟨g_bk, rfl, HS⟩
    have f1_ := HS.out.c 3 0 (v := .int .i64 (d : Int)) rfl rfl
    have f2_ := HS.out.c 3 1 (v := .int .i64 (n : Int)) rfl rfl
    have f3_ := HS.out.c 3 2 (v := .slice A l.length c) rfl rfl
    have f4_ := HS.out.c 0 0 (v := .int .i64 q.1) rfl rfl
    have f5_ := HS.out.c 0 1 (v := .int .i64 q.2) rfl rfl
    go_wp2_with (first | (go_at_call 204; refine (HLQ.out _ (HS.out.oldC HR.out)).mono ?_; rintro e_ w1 ⟨B, b, rfl, hs⟩; replace HS := sN1 HS hs; clear hs f1_ f2_ f3_ f4_ f5_) | ((with_reducible refine gate_dst (N := 7) rfl ?_); refine bxL 32 #[(.int .i64 0), (.int .i64 0), (.slice none 0 0)] HS ?_; clear HS; intro g_y w1 hg_y HS) | ((with_reducible refine gate_store (t := 32) (p := 7) rfl ?_); refine stL HS 0 0 #[.int .i64 0, .int .i64 0, .slice B ([] : Ts).length b] rfl rfl rfl rfl rfl ?_; clear HS; intro w1 HS) | ((with_reducible refine gate_store (t := 32) (p := 2) rfl ?_); refine stL HS 4 0 #[(.int .i64 0), (.int .i64 0), (.slice none 0 0)] rfl rfl rfl rfl rfl ?_; clear HS; intro w1 HS))
    refine bodyPost_ret (results_cell_tmp_row rfl _ _ g_r 32 #[(.int .i64 0), (.int .i64 0), (.slice none 0 0)] (0, 0) _ rfl (HS.out.at (i := 4) rfl) Try.underlying32 rfl (by kernel_rfl)) rfl ?_
    exact ⟨none, 0, rfl, nilS (HS.out.sel [] (by decide))⟩
  | some yl =>
    have HX := Aside0.mk (HY0.out yl rfl)
    obtain ⟨o2, ho2⟩ : ∃ o2, o2 = outO d n (some yl) invC (n + 1) := ⟨_, rfl⟩
    have HP := Aside0.mk (fun B b C cs (y : List Fr) W k1 k0 k2 (k3 : y = numL invC y.length) (k4 : y.length = n + 1) => (ho2 ▸ specSumP d n (n + 1) hd hn B b yl C cs y invC W k1 k0 HX.out k2 k3 k4 (by omega) invC_fr : Calls Try.prog 201 _ W (RetQ W (resQ d n o2))))
    have HT2 := Aside0.mk (fun z (h : o2 = some z) => out_ts hd9 invC_fr (ho2.symm.trans h))
    rw [← ho2]
    clear ho2 HY0
    go_enter Try.func165, Try.ntmps165
    go_wp2_with (first | ((with_reducible refine gate_dst (N := 1) rfl ?_); refine bxL 32 #[.int .i64 (d : Int), .int .i64 (n : Int), .slice A l.length c] HS ?_; clear HS; intro g_p w1 hg_p HS) | ((with_reducible refine gate_dst (N := 2) rfl ?_); refine bxL 32 #[(.int .i64 0), (.int .i64 0), (.slice none 0 0)] HS ?_; clear HS; intro g_r w1 hg_r HS; have f1_ := HS.out.c 1 0 (v := .int .i64 (d : Int)) rfl rfl; have f2_ := HS.out.c 1 1 (v := .int .i64 (n : Int)) rfl rfl; have f3_ := HS.out.c 1 2 (v := .slice A l.length c) rfl rfl) | (go_at_call 122; refine (HCN.out _ (HS.out.oldC HR.out)).mono ?_; rintro e_ w1 ⟨rfl, hb⟩; replace HS := sB HS hb; clear hb f1_ f2_ f3_) | ((with_reducible refine gate_dst (N := 4) rfl ?_); refine bxL 24 #[(.int .i64 0), (.int .i64 0)] HS ?_; clear HS; intro g_cc w1 hg_cc HS) | ((with_reducible refine gate_store (t := 24) (p := 4) rfl ?_); refine stL HS 0 0 #[.int .i64 e.1, .int .i64 e.2] rfl rfl rfl rfl rfl ?_; clear HS; intro w1 HS))
    replace HS := sD HS
    apply region_told ((fun (A0_ : Nat → Act) (a' : Act) (w' : World) => ∃ (g_bk : Nat), a' = A0_ g_bk ∧ Aside0 (Mod w w' No [bx g_bk 24 #[.int .i64 q.1, .int .i64 q.2], bx g_cc 24 #[.int .i64 e.1, .int .i64 e.2], bx g_r 32 #[(.int .i64 0), (.int .i64 0), (.slice none 0 0)], bx g_p 32 #[.int .i64 (d : Int), .int .i64 (n : Int), .slice A l.length c]])) _)
    case h1 =>
      refine ps (.t 1 (.two 0 6 (.two 2 6 (.p 3 (.p 4 (.p 5 (.e 6 (.d 7 (.p 8 .done)))))) (.e 2 (.p 3 (.p 4 (.p 5 (.d 7 (.p 8 .done))))))) (.e 0 (.e 2 (.p 3 (.p 4 (.p 5 (.d 7 (.p 8 .done))))))))) (fun w' => w'.cell? ⟨g_cc, 0, none⟩ = some (.int .i64 e.1) ∧ w'.cell? ⟨g_cc, 1, none⟩ = some (.int .i64 e.2)) [7] ⟨HS.out.c 0 0 (v := .int .i64 e.1) rfl rfl, HS.out.c 0 1 (v := .int .i64 e.2) rfl rfl⟩ (fun hHeld => ?_)
      repeat (first | ((with_reducible refine gate_p ?_); refine rp rfl rfl ?_) | ((with_reducible refine gate_t ?_); refine rt rfl rfl hHeld ?_))
      refine run_two ?_ ?_
      · skip
        refine run_e rfl (fun K hK => ?_)
        refine gc Try.func162 (specOne 1 _) rfl rfl ?_
        rintro e_ w1 ⟨rfl, hb⟩
        refine ⟨_, rfl, ?_⟩
        replace HS := sB HS hb
        refine ge hK ⟨HS.out.c 0 0 (v := .int .i64 e.1) rfl rfl, HS.out.c 0 1 (v := .int .i64 e.2) rfl rfl⟩ (fun hHeld => ?_)
        refine run_two ?_ ?_
        · skip
          refine run_e rfl (fun K hK => ?_)
          refine gc Try.func94 (HOV.out _) rfl rfl ?_
          rintro e_ w1 ⟨rfl, hb⟩
          refine ⟨_, rfl, ?_⟩
          replace HS := sB HS hb
          refine ge hK ⟨HS.out.c 0 0 (v := .int .i64 e.1) rfl rfl, HS.out.c 0 1 (v := .int .i64 e.2) rfl rfl⟩ (fun hHeld => ?_)
          repeat (first | ((with_reducible refine gate_p ?_); refine rp rfl rfl ?_) | ((with_reducible refine gate_t ?_); refine rt rfl rfl hHeld ?_))
          refine run_e rfl (fun K hK => ?_)
          refine bx1 24 #[(.int .i64 0), (.int .i64 0)] HS ?_
          intro g_bk w1 hg_bk HS
          refine ge hK ⟨HS.out.c 1 0 (v := .int .i64 e.1) rfl rfl, HS.out.c 1 1 (v := .int .i64 e.2) rfl rfl⟩ (fun hHeld => ?_)
          refine run_d rfl (fun K hK => ?_)
          refine st1 HS 0 0 #[.int .i64 q.1, .int .i64 q.2] rfl rfl rfl rfl rfl ?_
          intro w1 HS
          refine goD hK rfl ?_
          repeat (first | ((with_reducible refine gate_p ?_); refine rp rfl rfl ?_) | ((with_reducible refine gate_t ?_); refine rt rfl rfl hHeld ?_))
          refine run_done ?_
          exact ⟨g_bk, rfl, HS⟩
        · skip
          refine run_e rfl (fun K hK => ?_)
          refine bx1 24 #[(.int .i64 0), (.int .i64 0)] HS ?_
          intro g_bk w1 hg_bk HS
          refine ge hK ⟨HS.out.c 1 0 (v := .int .i64 e.1) rfl rfl, HS.out.c 1 1 (v := .int .i64 e.2) rfl rfl⟩ (fun hHeld => ?_)
          refine run_e rfl (fun K hK => ?_)
          refine gc Try.func94 (HOV.out _) rfl rfl ?_
          rintro e_ w1 ⟨rfl, hb⟩
          refine ⟨_, rfl, ?_⟩
          replace HS := sB HS hb
          refine ge hK ⟨HS.out.c 1 0 (v := .int .i64 e.1) rfl rfl, HS.out.c 1 1 (v := .int .i64 e.2) rfl rfl⟩ (fun hHeld => ?_)
          repeat (first | ((with_reducible refine gate_p ?_); refine rp rfl rfl ?_) | ((with_reducible refine gate_t ?_); refine rt rfl rfl hHeld ?_))
          refine run_d rfl (fun K hK => ?_)
          refine st1 HS 0 0 #[.int .i64 q.1, .int .i64 q.2] rfl rfl rfl rfl rfl ?_
          intro w1 HS
          refine goD hK rfl ?_
          repeat (first | ((with_reducible refine gate_p ?_); refine rp rfl rfl ?_) | ((with_reducible refine gate_t ?_); refine rt rfl rfl hHeld ?_))
          refine run_done ?_
          have n_ := HS.out.sel [0, 1, 2, 3] (by decide)
          simp only [List.filterMap_cons, List.filterMap_nil, List.getElem?_cons_zero, List.getElem?_cons_succ] at n_
          exact ⟨g_bk, rfl, ⟨n_⟩⟩
      · skip
        refine run_e rfl (fun K hK => ?_)
        refine bx1 24 #[(.int .i64 0), (.int .i64 0)] HS ?_
        intro g_bk w1 hg_bk HS
        refine ge hK ⟨HS.out.c 1 0 (v := .int .i64 e.1) rfl rfl, HS.out.c 1 1 (v := .int .i64 e.2) rfl rfl⟩ (fun hHeld => ?_)
        refine run_e rfl (fun K hK => ?_)
        refine gc Try.func162 (specOne 1 _) rfl rfl ?_
        rintro e_ w1 ⟨rfl, hb⟩
        refine ⟨_, rfl, ?_⟩
        replace HS := sB HS hb
        refine ge hK ⟨HS.out.c 1 0 (v := .int .i64 e.1) rfl rfl, HS.out.c 1 1 (v := .int .i64 e.2) rfl rfl⟩ (fun hHeld => ?_)
        refine run_e rfl (fun K hK => ?_)
        refine gc Try.func94 (HOV.out _) rfl rfl ?_
        rintro e_ w1 ⟨rfl, hb⟩
        refine ⟨_, rfl, ?_⟩
        replace HS := sB HS hb
        refine ge hK ⟨HS.out.c 1 0 (v := .int .i64 e.1) rfl rfl, HS.out.c 1 1 (v := .int .i64 e.2) rfl rfl⟩ (fun hHeld => ?_)
        repeat (first | ((with_reducible refine gate_p ?_); refine rp rfl rfl ?_) | ((with_reducible refine gate_t ?_); refine rt rfl rfl hHeld ?_))
        refine run_d rfl (fun K hK => ?_)
        refine st1 HS 0 0 #[.int .i64 q.1, .int .i64 q.2] rfl rfl rfl rfl rfl ?_
        intro w1 HS
        refine goD hK rfl ?_
        repeat (first | ((with_reducible refine gate_p ?_); refine rp rfl rfl ?_) | ((with_reducible refine gate_t ?_); refine rt rfl rfl hHeld ?_))
        refine run_done ?_
        have n_ := HS.out.sel [0, 1, 2, 3] (by decide)
        simp only [List.filterMap_cons, List.filterMap_nil, List.getElem?_cons_zero, List.getElem?_cons_succ] at n_
        exact ⟨g_bk, rfl, ⟨n_⟩⟩
    clear HS
    rintro a_ w1 ⟨g_bk, rfl, HS⟩
    have f1_ := HS.out.c 3 0 (v := .int .i64 (d : Int)) rfl rfl
    have f2_ := HS.out.c 3 1 (v := .int .i64 (n : Int)) rfl rfl
    have f3_ := HS.out.c 3 2 (v := .slice A l.length c) rfl rfl
    have f4_ := HS.out.c 0 0 (v := .int .i64 q.1) rfl rfl
    have f5_ := HS.out.c 0 1 (v := .int .i64 q.2) rfl rfl
    go_wp2_with (first | (go_at_call 204; refine (HLQ.out _ (HS.out.oldC HR.out)).mono ?_; rintro e_ w1 ⟨B, b, rfl, hs⟩; replace HS := sN1 HS hs; clear hs f1_ f2_ f3_ f4_ f5_) | ((with_reducible refine gate_dst (N := 7) rfl ?_); refine bxL 32 #[(.int .i64 0), (.int .i64 0), (.slice none 0 0)] HS ?_; clear HS; intro g_y w1 hg_y HS) | ((with_reducible refine gate_store (t := 32) (p := 7) rfl ?_); refine stL HS 0 0 #[.int .i64 (d : Int), .int .i64 (n : Int), .slice B yl.length b] rfl rfl rfl rfl rfl ?_; clear HS; intro w1 HS) | ((with_reducible refine gate_dst (N := 36) rfl ?_); refine wpList_stp (fun K hK => ?_); refine stp_lit (KF) rfl 24 (by rfl) HS (xs := ([] : List Fr)) (inner := []) (by first | (go_simp; done) | (go_simp; rfl)) (fun W base ok => Reps.none _ _) (by simp) ?_; clear HS; intro A_s c_s w1 HS; refine hK _ _ ?_; clear hK K))
    go_loopw [9, 10] (fun x v w' => ∃ (k : Nat) (C : Option Addr) (cs : Nat) (y : List Fr), k ≤ n + 1 ∧ v = .int .i64 (k : Int) ∧ x = .slice C y.length cs ∧ Aside0 (y = numL invC k) ∧ Aside0 (Mod w w' No [rowF C cs y, bx g_y 32 #[.int .i64 (d : Int), .int .i64 (n : Int), .slice B yl.length b], rowT B b yl, bx g_bk 24 #[.int .i64 q.1, .int .i64 q.2], bx g_cc 24 #[.int .i64 e.1, .int .i64 e.2], bx g_r 32 #[(.int .i64 0), (.int .i64 0), (.slice none 0 0)], bx g_p 32 #[.int .i64 (d : Int), .int .i64 (n : Int), .slice A l.length c]])) (fun _ v _ => n + 1 - (intOf v).toNat)
    case atStart => exact ⟨0, A_s, c_s, [], by omega, rfl, rfl, ⟨rfl⟩, HS⟩
    case round =>
      clear HS
      obtain ⟨k, C, cs, y, hk, rfl, rfl, HY, HS⟩ := hrel
      by_cases hlt : k ≤ n
      · have hyl : y.length ≤ 6 := by rw [HY.out, numL_len]; omega
        have HW0 := Aside0.mk (show ((1 - 2 * ((k : Int) % 2), 1) : Fr) = invC k from Prod.ext (five (p := fun k => 1 - 2 * ((k : Int) % 2) = (invC k).1) (by decide) (by decide) (by decide) (by decide) (by decide) (by decide) k (by omega)) rfl)
        have f1_ := HS.out.c 6 1 (v := .int .i64 (n : Int)) rfl rfl
        go_wp2_with (first | (go_at_call 162; refine (specOne (1 - 2 * ((k : Int) % 2)) _).mono ?_; rintro e_ w1 ⟨rfl, hb⟩; replace HS := sB HS hb; clear hb f1_) | ((with_reducible refine gate_builtin (b := .append) (xs := #[.tmp 43, .tmp 49]) rfl ?_); at_builtin; refine wpList_stp (fun K hK => ?_); refine stp_app (KF) rfl (by rfl) HS 0 rfl (.tmp 43) (.tmp 49) 104 24 (.agg #[(.int .i64 0), (.int .i64 0)]) 16 rfl Try.underlying104 infoFrac (by kernel_rfl) (((1 - 2 * ((k : Int) % 2), 1) : Fr)) [.int .i64 (1 - 2 * ((k : Int) % 2)), .int .i64 1] rfl (by first | rfl | (show Value.slice (some ⟨_, 0, none⟩) 1 1 = _; simp)) (KF_M (1 - 2 * ((k : Int) % 2), 1)) (by omega) ?_; clear HS; intro A_y' c_y' y' w1 Ny' HS; simp only [List.set_cons_zero, List.set_cons_succ] at HS; refine hK _ _ ?_; clear hK K))
        go_roundw
        case rel => exact ⟨k + 1, A_y', c_y', y', by omega, by go_num, rfl, ⟨by rw [Ny'.out, HY.out, numL_succ, HW0.out]⟩, HS⟩
        case measure => simp [intOf]; omega
      · obtain rfl : k = n + 1 := by omega
        have hy2 : y = numL invC y.length := by
          have h := HY.out
          rw [show y.length = n + 1 by rw [h, numL_len]]
          exact h
        have HY2 := Aside0.mk hy2
        clear hy2
        have HYL := Aside0.mk (show y.length = n + 1 by rw [HY.out, numL_len])
        cases o2 with
        | none =>
          have f1_ := HS.out.c 6 1 (v := .int .i64 (n : Int)) rfl rfl
          have f2_ := HS.out.c 1 0 (v := .int .i64 (d : Int)) rfl rfl
          have f3_ := HS.out.c 1 1 (v := .int .i64 (n : Int)) rfl rfl
          have f4_ := HS.out.c 1 2 (v := .slice B yl.length b) rfl rfl
          go_wp2_with (first | (go_at_call 201; refine (HP.out B b C cs y _ (HS.out.reads 2 rfl) (HS.out.cap 2 rfl) (HS.out.reads 0 rfl) HY2.out HYL.out).mono ?_; rintro e_ w1 ⟨B2, b2, rfl, hs⟩; replace HS := sN1 HS hs; clear hs f1_ f2_ f3_ f4_) | ((with_reducible refine gate_dst (N := 11) rfl ?_); refine bxL 32 #[(.int .i64 0), (.int .i64 0), (.slice none 0 0)] HS ?_; clear HS; intro g_z w1 hg_z HS) | ((with_reducible refine gate_store (t := 32) (p := 11) rfl ?_); refine stL HS 0 0 #[.int .i64 0, .int .i64 0, .slice B2 ([] : Ts).length b2] rfl rfl rfl rfl rfl ?_; clear HS; intro w1 HS) | ((with_reducible refine gate_store (t := 32) (p := 2) rfl ?_); refine stL HS 7 0 #[(.int .i64 0), (.int .i64 0), (.slice none 0 0)] rfl rfl rfl rfl rfl ?_; clear HS; intro w1 HS))
          refine bodyPost_ret (results_cell_tmp_row rfl _ _ g_r 32 #[(.int .i64 0), (.int .i64 0), (.slice none 0 0)] (0, 0) _ rfl (HS.out.at (i := 7) rfl) Try.underlying32 rfl (by kernel_rfl)) rfl ?_
          exact ⟨none, 0, rfl, nilS (HS.out.sel [] (by decide))⟩
        | some zl =>
          obtain ⟨R, hR⟩ : ∃ R, R = resQ d n (scS zl q) := ⟨_, rfl⟩
          have HAQ := Aside0.mk (fun B b B2 b2 W k1 k2 => (hR ▸ HAK.out B b B2 b2 zl W k1 k2 (HT2.out zl rfl) : Calls Try.prog 199 _ W (RetQ W R)))
          have HRR := Aside0.mk (show resQ d n ((some zl).bind fun z => scS z q) = R from hR.symm)
          clear hR
          have f1_ := HS.out.c 6 1 (v := .int .i64 (n : Int)) rfl rfl
          have f2_ := HS.out.c 1 0 (v := .int .i64 (d : Int)) rfl rfl
          have f3_ := HS.out.c 1 1 (v := .int .i64 (n : Int)) rfl rfl
          have f4_ := HS.out.c 1 2 (v := .slice B yl.length b) rfl rfl
          go_wp2_with (first | (go_at_call 201; refine (HP.out B b C cs y _ (HS.out.reads 2 rfl) (HS.out.cap 2 rfl) (HS.out.reads 0 rfl) HY2.out HYL.out).mono ?_; rintro e_ w1 ⟨B2, b2, rfl, hs⟩; replace HS := sN1 HS hs; clear hs f1_ f2_ f3_ f4_) | ((with_reducible refine gate_dst (N := 11) rfl ?_); refine bxL 32 #[(.int .i64 0), (.int .i64 0), (.slice none 0 0)] HS ?_; clear HS; intro g_z w1 hg_z HS) | ((with_reducible refine gate_store (t := 32) (p := 11) rfl ?_); refine stL HS 0 0 #[.int .i64 (d : Int), .int .i64 (n : Int), .slice B2 zl.length b2] rfl rfl rfl rfl rfl ?_; clear HS; intro w1 HS))
          replace HS := sD HS
          apply region_told ((fun (A0_ : Option Addr → Nat → Option Addr → Nat → Nat → Act) (a' : Act) (w' : World) => ∃ (B3 : Option Addr) (b3 : Nat) (B4 : Option Addr) (b4 : Nat) (g_u : Nat), a' = A0_ B3 b3 B4 b4 g_u ∧ Aside0 (Mod w w' No [bx g_u 32 #[.int .i64 R.1, .int .i64 R.2.1, .slice B4 R.2.2.1.length b4], rowT B4 b4 R.2.2.1, rowT B3 b3 [], bx g_z 32 #[.int .i64 (d : Int), .int .i64 (n : Int), .slice B2 zl.length b2], rowT B2 b2 zl, rowF C cs y, bx g_y 32 #[.int .i64 (d : Int), .int .i64 (n : Int), .slice B yl.length b], rowT B b yl, bx g_bk 24 #[.int .i64 q.1, .int .i64 q.2], bx g_cc 24 #[.int .i64 e.1, .int .i64 e.2], bx g_r 32 #[(.int .i64 0), (.int .i64 0), (.slice none 0 0)], bx g_p 32 #[.int .i64 (d : Int), .int .i64 (n : Int), .slice A l.length c]])) _)
          case h1 =>
            refine ps (.t 0 (.t 2 (.t 3 (.two 1 8 (.two 4 8 (.p 5 (.p 6 (.p 7 (.e 8 (.d 9 (.p 10 .done)))))) (.e 4 (.p 5 (.p 6 (.p 7 (.d 9 (.p 10 .done))))))) (.e 1 (.e 4 (.p 5 (.p 6 (.p 7 (.d 9 (.p 10 .done))))))))))) (fun w' => w'.cell? ⟨g_p, 0, none⟩ = some (.int .i64 (d : Int)) ∧ w'.cell? ⟨g_p, 1, none⟩ = some (.int .i64 (n : Int)) ∧ w'.cell? ⟨g_p, 2, none⟩ = some (.slice A l.length c) ∧ w'.cell? ⟨g_z, 0, none⟩ = some (.int .i64 (d : Int)) ∧ w'.cell? ⟨g_z, 1, none⟩ = some (.int .i64 (n : Int)) ∧ w'.cell? ⟨g_z, 2, none⟩ = some (.slice B2 zl.length b2) ∧ w'.cell? ⟨g_bk, 0, none⟩ = some (.int .i64 q.1) ∧ w'.cell? ⟨g_bk, 1, none⟩ = some (.int .i64 q.2)) [9] ⟨HS.out.c 8 0 (v := .int .i64 (d : Int)) rfl rfl, HS.out.c 8 1 (v := .int .i64 (n : Int)) rfl rfl, HS.out.c 8 2 (v := .slice A l.length c) rfl rfl, HS.out.c 0 0 (v := .int .i64 (d : Int)) rfl rfl, HS.out.c 0 1 (v := .int .i64 (n : Int)) rfl rfl, HS.out.c 0 2 (v := .slice B2 zl.length b2) rfl rfl, HS.out.c 5 0 (v := .int .i64 q.1) rfl rfl, HS.out.c 5 1 (v := .int .i64 q.2) rfl rfl⟩ (fun hHeld => ?_)
            repeat (first | ((with_reducible refine gate_p ?_); refine rp rfl rfl ?_) | ((with_reducible refine gate_t ?_); refine rt rfl rfl hHeld ?_))
            refine run_two ?_ ?_
            · skip
              refine run_e rfl (fun K hK => ?_)
              refine gc Try.func117 (specEmpty d n A l.length c _) rfl rfl ?_
              rintro e_ w1 ⟨B3, b3, rfl, hs⟩
              refine ⟨_, rfl, ?_⟩
              replace HS := sN1 HS hs
              refine ge hK ⟨HS.out.c 9 0 (v := .int .i64 (d : Int)) rfl rfl, HS.out.c 9 1 (v := .int .i64 (n : Int)) rfl rfl, HS.out.c 9 2 (v := .slice A l.length c) rfl rfl, HS.out.c 1 0 (v := .int .i64 (d : Int)) rfl rfl, HS.out.c 1 1 (v := .int .i64 (n : Int)) rfl rfl, HS.out.c 1 2 (v := .slice B2 zl.length b2) rfl rfl, HS.out.c 6 0 (v := .int .i64 q.1) rfl rfl, HS.out.c 6 1 (v := .int .i64 q.2) rfl rfl⟩ (fun hHeld => ?_)
              refine run_two ?_ ?_
              · skip
                refine run_e rfl (fun K hK => ?_)
                refine gc Try.func199 (HAQ.out B3 b3 B2 b2 _ (HS.out.reads 0 rfl) (HS.out.reads 2 rfl)) rfl rfl ?_
                rintro e_ w1 ⟨B4, b4, rfl, hs⟩
                refine ⟨_, rfl, ?_⟩
                replace HS := sN1 HS hs
                refine ge hK ⟨HS.out.c 10 0 (v := .int .i64 (d : Int)) rfl rfl, HS.out.c 10 1 (v := .int .i64 (n : Int)) rfl rfl, HS.out.c 10 2 (v := .slice A l.length c) rfl rfl, HS.out.c 2 0 (v := .int .i64 (d : Int)) rfl rfl, HS.out.c 2 1 (v := .int .i64 (n : Int)) rfl rfl, HS.out.c 2 2 (v := .slice B2 zl.length b2) rfl rfl, HS.out.c 7 0 (v := .int .i64 q.1) rfl rfl, HS.out.c 7 1 (v := .int .i64 q.2) rfl rfl⟩ (fun hHeld => ?_)
                repeat (first | ((with_reducible refine gate_p ?_); refine rp rfl rfl ?_) | ((with_reducible refine gate_t ?_); refine rt rfl rfl hHeld ?_))
                refine run_e rfl (fun K hK => ?_)
                refine bx1 32 #[(.int .i64 0), (.int .i64 0), (.slice none 0 0)] HS ?_
                intro g_u w1 hg_u HS
                refine ge hK ⟨HS.out.c 11 0 (v := .int .i64 (d : Int)) rfl rfl, HS.out.c 11 1 (v := .int .i64 (n : Int)) rfl rfl, HS.out.c 11 2 (v := .slice A l.length c) rfl rfl, HS.out.c 3 0 (v := .int .i64 (d : Int)) rfl rfl, HS.out.c 3 1 (v := .int .i64 (n : Int)) rfl rfl, HS.out.c 3 2 (v := .slice B2 zl.length b2) rfl rfl, HS.out.c 8 0 (v := .int .i64 q.1) rfl rfl, HS.out.c 8 1 (v := .int .i64 q.2) rfl rfl⟩ (fun hHeld => ?_)
                refine run_d rfl (fun K hK => ?_)
                refine st1 HS 0 0 #[.int .i64 R.1, .int .i64 R.2.1, .slice B4 R.2.2.1.length b4] rfl rfl rfl rfl rfl ?_
                intro w1 HS
                refine goD hK rfl ?_
                repeat (first | ((with_reducible refine gate_p ?_); refine rp rfl rfl ?_) | ((with_reducible refine gate_t ?_); refine rt rfl rfl hHeld ?_))
                refine run_done ?_
                exact ⟨B3, b3, B4, b4, g_u, rfl, HS⟩
              · skip
                refine run_e rfl (fun K hK => ?_)
                refine bx1 32 #[(.int .i64 0), (.int .i64 0), (.slice none 0 0)] HS ?_
                intro g_u w1 hg_u HS
                refine ge hK ⟨HS.out.c 10 0 (v := .int .i64 (d : Int)) rfl rfl, HS.out.c 10 1 (v := .int .i64 (n : Int)) rfl rfl, HS.out.c 10 2 (v := .slice A l.length c) rfl rfl, HS.out.c 2 0 (v := .int .i64 (d : Int)) rfl rfl, HS.out.c 2 1 (v := .int .i64 (n : Int)) rfl rfl, HS.out.c 2 2 (v := .slice B2 zl.length b2) rfl rfl, HS.out.c 7 0 (v := .int .i64 q.1) rfl rfl, HS.out.c 7 1 (v := .int .i64 q.2) rfl rfl⟩ (fun hHeld => ?_)
                refine run_e rfl (fun K hK => ?_)
                refine gc Try.func199 (HAQ.out B3 b3 B2 b2 _ (HS.out.reads 1 rfl) (HS.out.reads 3 rfl)) rfl rfl ?_
                rintro e_ w1 ⟨B4, b4, rfl, hs⟩
                refine ⟨_, rfl, ?_⟩
                replace HS := sN1 HS hs
                refine ge hK ⟨HS.out.c 11 0 (v := .int .i64 (d : Int)) rfl rfl, HS.out.c 11 1 (v := .int .i64 (n : Int)) rfl rfl, HS.out.c 11 2 (v := .slice A l.length c) rfl rfl, HS.out.c 3 0 (v := .int .i64 (d : Int)) rfl rfl, HS.out.c 3 1 (v := .int .i64 (n : Int)) rfl rfl, HS.out.c 3 2 (v := .slice B2 zl.length b2) rfl rfl, HS.out.c 8 0 (v := .int .i64 q.1) rfl rfl, HS.out.c 8 1 (v := .int .i64 q.2) rfl rfl⟩ (fun hHeld => ?_)
                repeat (first | ((with_reducible refine gate_p ?_); refine rp rfl rfl ?_) | ((with_reducible refine gate_t ?_); refine rt rfl rfl hHeld ?_))
                refine run_d rfl (fun K hK => ?_)
                refine st1 HS 1 0 #[.int .i64 R.1, .int .i64 R.2.1, .slice B4 R.2.2.1.length b4] rfl rfl rfl rfl rfl ?_
                intro w1 HS
                refine goD hK rfl ?_
                repeat (first | ((with_reducible refine gate_p ?_); refine rp rfl rfl ?_) | ((with_reducible refine gate_t ?_); refine rt rfl rfl hHeld ?_))
                refine run_done ?_
                have n_ := HS.out.sel [1, 0, 2, 3, 4, 5, 6, 7, 8, 9, 10, 11] (by decide)
                simp only [List.filterMap_cons, List.filterMap_nil, List.getElem?_cons_zero, List.getElem?_cons_succ] at n_
                exact ⟨B3, b3, B4, b4, g_u, rfl, ⟨n_⟩⟩
            · skip
              refine run_e rfl (fun K hK => ?_)
              refine bx1 32 #[(.int .i64 0), (.int .i64 0), (.slice none 0 0)] HS ?_
              intro g_u w1 hg_u HS
              refine ge hK ⟨HS.out.c 9 0 (v := .int .i64 (d : Int)) rfl rfl, HS.out.c 9 1 (v := .int .i64 (n : Int)) rfl rfl, HS.out.c 9 2 (v := .slice A l.length c) rfl rfl, HS.out.c 1 0 (v := .int .i64 (d : Int)) rfl rfl, HS.out.c 1 1 (v := .int .i64 (n : Int)) rfl rfl, HS.out.c 1 2 (v := .slice B2 zl.length b2) rfl rfl, HS.out.c 6 0 (v := .int .i64 q.1) rfl rfl, HS.out.c 6 1 (v := .int .i64 q.2) rfl rfl⟩ (fun hHeld => ?_)
              refine run_e rfl (fun K hK => ?_)
              refine gc Try.func117 (specEmpty d n A l.length c _) rfl rfl ?_
              rintro e_ w1 ⟨B3, b3, rfl, hs⟩
              refine ⟨_, rfl, ?_⟩
              replace HS := sN1 HS hs
              refine ge hK ⟨HS.out.c 10 0 (v := .int .i64 (d : Int)) rfl rfl, HS.out.c 10 1 (v := .int .i64 (n : Int)) rfl rfl, HS.out.c 10 2 (v := .slice A l.length c) rfl rfl, HS.out.c 2 0 (v := .int .i64 (d : Int)) rfl rfl, HS.out.c 2 1 (v := .int .i64 (n : Int)) rfl rfl, HS.out.c 2 2 (v := .slice B2 zl.length b2) rfl rfl, HS.out.c 7 0 (v := .int .i64 q.1) rfl rfl, HS.out.c 7 1 (v := .int .i64 q.2) rfl rfl⟩ (fun hHeld => ?_)
              refine run_e rfl (fun K hK => ?_)
              refine gc Try.func199 (HAQ.out B3 b3 B2 b2 _ (HS.out.reads 0 rfl) (HS.out.reads 3 rfl)) rfl rfl ?_
              rintro e_ w1 ⟨B4, b4, rfl, hs⟩
              refine ⟨_, rfl, ?_⟩
              replace HS := sN1 HS hs
              refine ge hK ⟨HS.out.c 11 0 (v := .int .i64 (d : Int)) rfl rfl, HS.out.c 11 1 (v := .int .i64 (n : Int)) rfl rfl, HS.out.c 11 2 (v := .slice A l.length c) rfl rfl, HS.out.c 3 0 (v := .int .i64 (d : Int)) rfl rfl, HS.out.c 3 1 (v := .int .i64 (n : Int)) rfl rfl, HS.out.c 3 2 (v := .slice B2 zl.length b2) rfl rfl, HS.out.c 8 0 (v := .int .i64 q.1) rfl rfl, HS.out.c 8 1 (v := .int .i64 q.2) rfl rfl⟩ (fun hHeld => ?_)
              repeat (first | ((with_reducible refine gate_p ?_); refine rp rfl rfl ?_) | ((with_reducible refine gate_t ?_); refine rt rfl rfl hHeld ?_))
              refine run_d rfl (fun K hK => ?_)
              refine st1 HS 2 0 #[.int .i64 R.1, .int .i64 R.2.1, .slice B4 R.2.2.1.length b4] rfl rfl rfl rfl rfl ?_
              intro w1 HS
              refine goD hK rfl ?_
              repeat (first | ((with_reducible refine gate_p ?_); refine rp rfl rfl ?_) | ((with_reducible refine gate_t ?_); refine rt rfl rfl hHeld ?_))
              refine run_done ?_
              have n_ := HS.out.sel [2, 0, 1, 3, 4, 5, 6, 7, 8, 9, 10, 11] (by decide)
              simp only [List.filterMap_cons, List.filterMap_nil, List.getElem?_cons_zero, List.getElem?_cons_succ] at n_
              exact ⟨B3, b3, B4, b4, g_u, rfl, ⟨n_⟩⟩
          clear HS
          rintro a_ w1 ⟨B3, b3, B4, b4, g_u, rfl, HS⟩
          have f1_ := HS.out.c 0 0 (v := .int .i64 R.1) rfl rfl
          have f2_ := HS.out.c 0 1 (v := .int .i64 R.2.1) rfl rfl
          have f3_ := HS.out.c 0 2 (v := .slice B4 R.2.2.1.length b4) rfl rfl
          go_wp2_with (first | ((with_reducible refine gate_store (t := 32) (p := 2) rfl ?_); refine stL HS 10 0 #[.int .i64 R.1, .int .i64 R.2.1, .slice B4 R.2.2.1.length b4] rfl rfl rfl rfl rfl ?_; clear HS f1_ f2_ f3_; intro w1 HS))
          refine bodyPost_ret (results_cell_tmp_row rfl _ _ g_r 32 #[.int .i64 R.1, .int .i64 R.2.1, .slice B4 R.2.2.1.length b4] (0, 0) _ rfl (HS.out.at (i := 10) rfl) Try.underlying32 rfl (by kernel_rfl)) rfl ?_
          rw [HRR.out]
          exact ⟨B4, b4, rfl, HS.out.sel [1] (by decide)⟩
set_option maxHeartbeats 8000000 in
theorem specInverseSeries (d n : Int) (A : Option Addr) (c : Nat) (l : Ts) (w : World) (hr : KT.C w A l.length l) (hc : l.length ≤ c) (hb : bnd l = true) :
    Calls Try.prog 89 #[.agg #[.int .i64 d, .int .i64 n, .slice A l.length c]] w (RetS w (invR d n l)) := by
  have HR := Aside0.mk hr
  have HB := Aside0.mk hb
  have HS := Aside0.mk (Sep.refl w)
  clear hr hb
  unfold invR
  cases h : isS d n l with
  | false =>
    go_enter Try.func89, Try.ntmps89
    go_wp2_with (first | ((with_reducible refine gate_dst (N := 1) rfl ?_); refine bxL 32 #[.int .i64 d, .int .i64 n, .slice A l.length c] HS ?_; clear HS; intro g_p w1 hg_p HS) | ((with_reducible refine gate_dst (N := 2) rfl ?_); refine bxL 32 #[(.int .i64 0), (.int .i64 0), (.slice none 0 0)] HS ?_; clear HS; intro g_r w1 hg_r HS; have f1_ := HS.out.c 1 0 (v := .int .i64 d) rfl rfl; have f2_ := HS.out.c 1 1 (v := .int .i64 n) rfl rfl; have f3_ := HS.out.c 1 2 (v := .slice A l.length c) rfl rfl) | (go_at_call 109; refine (specIs d n A c l _ (HS.out.oldC HR.out) hc HB.out).mono ?_; rintro e_ w1 ⟨rfl, hb⟩; replace HS := sB HS hb; clear hb f1_ f2_ f3_) | ((with_reducible refine gate_store (t := 32) (p := 2) rfl ?_); refine stL HS 0 0 #[(.int .i64 0), (.int .i64 0), (.slice none 0 0)] rfl rfl rfl rfl rfl ?_; clear HS; intro w1 HS))
    refine bodyPost_ret (results_cell_tmp_row rfl _ _ g_r 32 #[(.int .i64 0), (.int .i64 0), (.slice none 0 0)] (0, 0) _ rfl (HS.out.at (i := 0) rfl) Try.underlying32 rfl (by kernel_rfl)) rfl ?_
    exact ⟨none, 0, rfl, nilS (HS.out.sel [] (by decide))⟩
  | true =>
    have HX := Aside0.mk (isS_t h)
    obtain ⟨d, n, rfl, rfl, hd1, hd3, hn1, hn5⟩ := lev_nat (isS_l h)
    rw [Int.toNat_natCast, Int.toNat_natCast] at HX ⊢
    rw [if_pos rfl]
    have HCN := Aside0.mk (fun W k1 => specConstant d n A c l W k1 hc HB.out)
    have HIQ := Aside0.mk (fun (h0 : (co l eps).1 ≠ 0) W k1 => specInvQ d n hd3 hn1 hn5 A c l W k1 hc HX.out h0)
    obtain ⟨e, he⟩ : ∃ e : Fr, e = co l eps := ⟨_, rfl⟩
    rw [← he] at HCN HIQ
    rw [← he]
    clear he
    by_cases hz : e.1 = 0
    · have hzb : (e.1 == 0) = true := by rw [hz]; rfl
      rw [if_pos hz]
      clear hz
      go_enter Try.func89, Try.ntmps89
      go_wp2_with (first | ((with_reducible refine gate_dst (N := 1) rfl ?_); refine bxL 32 #[.int .i64 (d : Int), .int .i64 (n : Int), .slice A l.length c] HS ?_; clear HS; intro g_p w1 hg_p HS) | ((with_reducible refine gate_dst (N := 2) rfl ?_); refine bxL 32 #[(.int .i64 0), (.int .i64 0), (.slice none 0 0)] HS ?_; clear HS; intro g_r w1 hg_r HS; have f1_ := HS.out.c 1 0 (v := .int .i64 (d : Int)) rfl rfl; have f2_ := HS.out.c 1 1 (v := .int .i64 (n : Int)) rfl rfl; have f3_ := HS.out.c 1 2 (v := .slice A l.length c) rfl rfl) | (go_at_call 109; refine (specIs d n A c l _ (HS.out.oldC HR.out) hc HB.out).mono ?_; rintro e_ w1 ⟨rfl, hb⟩; replace HS := sB HS hb; clear hb f1_ f2_ f3_; have f1_ := HS.out.c 1 0 (v := .int .i64 (d : Int)) rfl rfl; have f2_ := HS.out.c 1 1 (v := .int .i64 (n : Int)) rfl rfl; have f3_ := HS.out.c 1 2 (v := .slice A l.length c) rfl rfl) | (go_at_call 122; refine (HCN.out _ (HS.out.oldC HR.out)).mono ?_; rintro e_ w1 ⟨rfl, hb⟩; replace HS := sB HS hb; clear hb f1_ f2_ f3_) | (go_at_call 92; refine (specZero _ _ _).mono ?_; rintro e_ w1 ⟨rfl, hb⟩; replace HS := sB HS hb; clear hb) | ((with_reducible refine gate_store (t := 32) (p := 2) rfl ?_); refine stL HS 0 0 #[(.int .i64 0), (.int .i64 0), (.slice none 0 0)] rfl rfl rfl rfl rfl ?_; clear HS; intro w1 HS))
      refine bodyPost_ret (results_cell_tmp_row rfl _ _ g_r 32 #[(.int .i64 0), (.int .i64 0), (.slice none 0 0)] (0, 0) _ rfl (HS.out.at (i := 0) rfl) Try.underlying32 rfl (by kernel_rfl)) rfl ?_
      exact ⟨none, 0, rfl, nilS (HS.out.sel [] (by decide))⟩
    · have hzb : (e.1 == 0) = false := by simpa using hz
      rw [if_neg hz]
      have HP := Aside0.mk (HIQ.out hz)
      obtain ⟨o, ho⟩ : ∃ o, o = invS d n l := ⟨_, rfl⟩
      rw [← ho] at HP
      rw [← ho]
      clear ho hz HIQ
      cases o with
      | none =>
        go_enter Try.func89, Try.ntmps89
        go_wp2_with (first | ((with_reducible refine gate_dst (N := 1) rfl ?_); refine bxL 32 #[.int .i64 (d : Int), .int .i64 (n : Int), .slice A l.length c] HS ?_; clear HS; intro g_p w1 hg_p HS) | ((with_reducible refine gate_dst (N := 2) rfl ?_); refine bxL 32 #[(.int .i64 0), (.int .i64 0), (.slice none 0 0)] HS ?_; clear HS; intro g_r w1 hg_r HS; have f1_ := HS.out.c 1 0 (v := .int .i64 (d : Int)) rfl rfl; have f2_ := HS.out.c 1 1 (v := .int .i64 (n : Int)) rfl rfl; have f3_ := HS.out.c 1 2 (v := .slice A l.length c) rfl rfl) | (go_at_call 109; refine (specIs d n A c l _ (HS.out.oldC HR.out) hc HB.out).mono ?_; rintro e_ w1 ⟨rfl, hb⟩; replace HS := sB HS hb; clear hb f1_ f2_ f3_; have f1_ := HS.out.c 1 0 (v := .int .i64 (d : Int)) rfl rfl; have f2_ := HS.out.c 1 1 (v := .int .i64 (n : Int)) rfl rfl; have f3_ := HS.out.c 1 2 (v := .slice A l.length c) rfl rfl) | (go_at_call 122; refine (HCN.out _ (HS.out.oldC HR.out)).mono ?_; rintro e_ w1 ⟨rfl, hb⟩; replace HS := sB HS hb; clear hb f1_ f2_ f3_) | (go_at_call 92; refine (specZero _ _ _).mono ?_; rintro e_ w1 ⟨rfl, hb⟩; replace HS := sB HS hb; clear hb; have f1_ := HS.out.c 1 0 (v := .int .i64 (d : Int)) rfl rfl; have f2_ := HS.out.c 1 1 (v := .int .i64 (n : Int)) rfl rfl; have f3_ := HS.out.c 1 2 (v := .slice A l.length c) rfl rfl) | (go_at_call 165; refine (HP.out _ (HS.out.oldC HR.out)).mono ?_; rintro e_ w1 ⟨B, b, rfl, hs⟩; replace HS := sN1 HS hs; clear hs f1_ f2_ f3_) | ((with_reducible refine gate_dst (N := 4) rfl ?_); refine bxL 32 #[(.int .i64 0), (.int .i64 0), (.slice none 0 0)] HS ?_; clear HS; intro g_y w1 hg_y HS) | ((with_reducible refine gate_store (t := 32) (p := 4) rfl ?_); refine stL HS 0 0 #[.int .i64 0, .int .i64 0, .slice B ([] : Ts).length b] rfl rfl rfl rfl rfl ?_; clear HS; intro w1 HS) | ((with_reducible refine gate_store (t := 32) (p := 2) rfl ?_); refine stL HS 2 0 #[(.int .i64 0), (.int .i64 0), (.slice none 0 0)] rfl rfl rfl rfl rfl ?_; clear HS; intro w1 HS))
        refine bodyPost_ret (results_cell_tmp_row rfl _ _ g_r 32 #[(.int .i64 0), (.int .i64 0), (.slice none 0 0)] (0, 0) _ rfl (HS.out.at (i := 2) rfl) Try.underlying32 rfl (by kernel_rfl)) rfl ?_
        exact ⟨none, 0, rfl, nilS (HS.out.sel [] (by decide))⟩
      | some z =>
        go_enter Try.func89, Try.ntmps89
        go_wp2_with (first | ((with_reducible refine gate_dst (N := 1) rfl ?_); refine bxL 32 #[.int .i64 (d : Int), .int .i64 (n : Int), .slice A l.length c] HS ?_; clear HS; intro g_p w1 hg_p HS) | ((with_reducible refine gate_dst (N := 2) rfl ?_); refine bxL 32 #[(.int .i64 0), (.int .i64 0), (.slice none 0 0)] HS ?_; clear HS; intro g_r w1 hg_r HS; have f1_ := HS.out.c 1 0 (v := .int .i64 (d : Int)) rfl rfl; have f2_ := HS.out.c 1 1 (v := .int .i64 (n : Int)) rfl rfl; have f3_ := HS.out.c 1 2 (v := .slice A l.length c) rfl rfl) | (go_at_call 109; refine (specIs d n A c l _ (HS.out.oldC HR.out) hc HB.out).mono ?_; rintro e_ w1 ⟨rfl, hb⟩; replace HS := sB HS hb; clear hb f1_ f2_ f3_; have f1_ := HS.out.c 1 0 (v := .int .i64 (d : Int)) rfl rfl; have f2_ := HS.out.c 1 1 (v := .int .i64 (n : Int)) rfl rfl; have f3_ := HS.out.c 1 2 (v := .slice A l.length c) rfl rfl) | (go_at_call 122; refine (HCN.out _ (HS.out.oldC HR.out)).mono ?_; rintro e_ w1 ⟨rfl, hb⟩; replace HS := sB HS hb; clear hb f1_ f2_ f3_) | (go_at_call 92; refine (specZero _ _ _).mono ?_; rintro e_ w1 ⟨rfl, hb⟩; replace HS := sB HS hb; clear hb; have f1_ := HS.out.c 1 0 (v := .int .i64 (d : Int)) rfl rfl; have f2_ := HS.out.c 1 1 (v := .int .i64 (n : Int)) rfl rfl; have f3_ := HS.out.c 1 2 (v := .slice A l.length c) rfl rfl) | (go_at_call 165; refine (HP.out _ (HS.out.oldC HR.out)).mono ?_; rintro e_ w1 ⟨B, b, rfl, hs⟩; replace HS := sN1 HS hs; clear hs f1_ f2_ f3_) | ((with_reducible refine gate_dst (N := 4) rfl ?_); refine bxL 32 #[(.int .i64 0), (.int .i64 0), (.slice none 0 0)] HS ?_; clear HS; intro g_y w1 hg_y HS) | ((with_reducible refine gate_store (t := 32) (p := 4) rfl ?_); refine stL HS 0 0 #[.int .i64 (d : Int), .int .i64 (n : Int), .slice B z.length b] rfl rfl rfl rfl rfl ?_; clear HS; intro w1 HS; have f1_ := HS.out.c 0 0 (v := .int .i64 (d : Int)) rfl rfl; have f2_ := HS.out.c 0 1 (v := .int .i64 (n : Int)) rfl rfl; have f3_ := HS.out.c 0 2 (v := .slice B z.length b) rfl rfl) | ((with_reducible refine gate_store (t := 32) (p := 2) rfl ?_); refine stL HS 2 0 #[.int .i64 (d : Int), .int .i64 (n : Int), .slice B z.length b] rfl rfl rfl rfl rfl ?_; clear HS f1_ f2_ f3_; intro w1 HS))
        refine bodyPost_ret (results_cell_tmp_row rfl _ _ g_r 32 #[.int .i64 (d : Int), .int .i64 (n : Int), .slice B z.length b] (0, 0) _ rfl (HS.out.at (i := 2) rfl) Try.underlying32 rfl (by kernel_rfl)) rfl ?_
        exact ⟨B, b, rfl, HS.out.sel [1] (by decide)⟩
set_option maxHeartbeats 8000000 in
theorem implInverseSeries (d n : Int) (A : Option Addr) (c : Nat) (l : Ts) (w : World) (hr : KT.C w A l.length l) (hc : l.length ≤ c) (hb : bnd l = true) :
    Calls Try.prog 90 #[.agg #[.int .i64 d, .int .i64 n, .slice A l.length c]] w (RetS w (invR d n l)) := by
  have HR := Aside0.mk hr
  have HB := Aside0.mk hb
  have HS := Aside0.mk (Sep.refl w)
  clear hr hb
  unfold invR
  cases h : isS d n l with
  | false =>
    go_enter Try.func90, Try.ntmps90
    go_wp2_with (first | ((with_reducible refine gate_dst (N := 1) rfl ?_); refine bxL 32 #[.int .i64 d, .int .i64 n, .slice A l.length c] HS ?_; clear HS; intro g_p w1 hg_p HS) | ((with_reducible refine gate_dst (N := 2) rfl ?_); refine bxL 32 #[(.int .i64 0), (.int .i64 0), (.slice none 0 0)] HS ?_; clear HS; intro g_r w1 hg_r HS; have f1_ := HS.out.c 1 0 (v := .int .i64 d) rfl rfl; have f2_ := HS.out.c 1 1 (v := .int .i64 n) rfl rfl; have f3_ := HS.out.c 1 2 (v := .slice A l.length c) rfl rfl) | (go_at_call 42; refine (implIs d n A c l _ (HS.out.oldC HR.out) hc HB.out).mono ?_; rintro e_ w1 ⟨rfl, hb⟩; replace HS := sB HS hb; clear hb f1_ f2_ f3_) | ((with_reducible refine gate_store (t := 32) (p := 2) rfl ?_); refine stL HS 0 0 #[(.int .i64 0), (.int .i64 0), (.slice none 0 0)] rfl rfl rfl rfl rfl ?_; clear HS; intro w1 HS))
    refine bodyPost_ret (results_cell_tmp_row rfl _ _ g_r 32 #[(.int .i64 0), (.int .i64 0), (.slice none 0 0)] (0, 0) _ rfl (HS.out.at (i := 0) rfl) Try.underlying32 rfl (by kernel_rfl)) rfl ?_
    exact ⟨none, 0, rfl, nilS (HS.out.sel [] (by decide))⟩
  | true =>
    have HX := Aside0.mk (isS_t h)
    have hlev := isS_l h
    obtain ⟨d, n, rfl, rfl, hd1, hd3, hn1, hn5⟩ := lev_nat hlev
    have HL := Aside0.mk hlev
    clear hlev
    rw [Int.toNat_natCast, Int.toNat_natCast] at HX ⊢
    rw [if_pos rfl]
    have hN0 : 0 < nW d n := num_lt' (s := eps) (by rfl) (Nat.zero_le _)
    have HOP := Aside0.mk (fun W k1 => implOpen d n A c l W HL.out k1 HX.out)
    have HSC := Aside0.mk (fun g v (q : Fr) (hq : fr q = true) W k1 k2 => tabScaled (w := W) (g := g) (v := v) (F := (co l, false)) HL.out ⟨good_co HX.out, rel_self HX.out, k1, k2⟩ hq)
    obtain ⟨N, hN⟩ : ∃ N, N = nW d n := ⟨_, rfl⟩
    rw [← hN] at hN0 HOP HSC
    clear hN
    have hfe := co_fr HX.out eps
    unfold invS
    obtain ⟨e, he⟩ : ∃ e : Fr, e = co l eps := ⟨_, rfl⟩
    have HE := Aside0.mk he.symm
    rw [← he] at hfe
    rw [← he]
    clear he
    by_cases hz : e.1 = 0
    · have hzb : (e.1 == 0) = true := by rw [hz]; rfl
      rw [if_pos hz]
      clear hz
      go_enter Try.func90, Try.ntmps90
      go_wp2_with (first | ((with_reducible refine gate_dst (N := 1) rfl ?_); refine bxL 32 #[.int .i64 (d : Int), .int .i64 (n : Int), .slice A l.length c] HS ?_; clear HS; intro g_p w1 hg_p HS) | ((with_reducible refine gate_dst (N := 2) rfl ?_); refine bxL 32 #[(.int .i64 0), (.int .i64 0), (.slice none 0 0)] HS ?_; clear HS; intro g_r w1 hg_r HS; have f1_ := HS.out.c 1 0 (v := .int .i64 (d : Int)) rfl rfl; have f2_ := HS.out.c 1 1 (v := .int .i64 (n : Int)) rfl rfl; have f3_ := HS.out.c 1 2 (v := .slice A l.length c) rfl rfl) | (go_at_call 42; refine (implIs d n A c l _ (HS.out.oldC HR.out) hc HB.out).mono ?_; rintro e_ w1 ⟨rfl, hb⟩; replace HS := sB HS hb; clear hb f1_ f2_ f3_; have f1_ := HS.out.c 1 0 (v := .int .i64 (d : Int)) rfl rfl; have f2_ := HS.out.c 1 1 (v := .int .i64 (n : Int)) rfl rfl; have f3_ := HS.out.c 1 2 (v := .slice A l.length c) rfl rfl) | (go_at_call 126; refine (HOP.out _ (HS.out.oldC HR.out)).mono ?_; rintro e_ w1 ⟨g, v, rfl, hs⟩; replace HS := sN2 HS hs; clear hs f1_ f2_ f3_; have f1_ := HS.out.c 0 2 (v := .slice (some ⟨v, 0, none⟩) N N) rfl rfl; have f2_ := ((tab_at0 (HS.out.at (i := 1) rfl)).1.trans (by rw [HE.out])); have f3_ := ((tab_at0 (HS.out.at (i := 1) rfl)).2.trans (by rw [HE.out]))) | ((with_reducible refine gate_dst (N := 5) rfl ?_); refine bxL 24 #[(.int .i64 0), (.int .i64 0)] HS ?_; clear HS f1_ f2_ f3_; intro g_cc w1 hg_cc HS) | ((with_reducible refine gate_store (t := 24) (p := 5) rfl ?_); refine stL HS 0 0 #[.int .i64 e.1, .int .i64 e.2] rfl rfl rfl rfl rfl ?_; clear HS; intro w1 HS; have f1_ := HS.out.c 0 0 (v := .int .i64 e.1) rfl rfl) | ((with_reducible refine gate_store (t := 32) (p := 2) rfl ?_); refine stL HS 3 0 #[(.int .i64 0), (.int .i64 0), (.slice none 0 0)] rfl rfl rfl rfl rfl ?_; clear HS f1_; intro w1 HS))
      refine bodyPost_ret (results_cell_tmp_row rfl _ _ g_r 32 #[(.int .i64 0), (.int .i64 0), (.slice none 0 0)] (0, 0) _ rfl (HS.out.at (i := 3) rfl) Try.underlying32 rfl (by kernel_rfl)) rfl ?_
      exact ⟨none, 0, rfl, nilS (HS.out.sel [] (by decide))⟩
    · have hzb : (e.1 == 0) = false := by simpa using hz
      rw [if_neg hz]
      have hqf := Aside0.mk (over_div hfe hz).2
      obtain ⟨r1, r2, r3⟩ := over_red hfe hz
      have hsm := fr_small hfe
      unfold small at hsm
      have HRD := Aside0.mk (fun W => (by have h := implReduced e.2 e.1 W hz (by omega) (by omega) (by omega) (by omega); rw [r1, r2, r3] at h; exact h : Calls Try.prog 97 #[.int .i64 e.2, .int .i64 e.1] W fun x w' => x = .returned (.tuple #[.agg #[.int .i64 (overF e).1, .int .i64 (overF e).2], .bool true]) ∧ Below W.heap.size W w'))
      obtain ⟨q, hq⟩ : ∃ q, q = overF e := ⟨_, rfl⟩
      rw [← hq] at HRD hqf
      rw [← hq]
      clear hq hz r1 r2 r3 hsm hfe
      go_enter Try.func90, Try.ntmps90
      go_wp2_with (first | ((with_reducible refine gate_dst (N := 1) rfl ?_); refine bxL 32 #[.int .i64 (d : Int), .int .i64 (n : Int), .slice A l.length c] HS ?_; clear HS; intro g_p w1 hg_p HS) | ((with_reducible refine gate_dst (N := 2) rfl ?_); refine bxL 32 #[(.int .i64 0), (.int .i64 0), (.slice none 0 0)] HS ?_; clear HS; intro g_r w1 hg_r HS; have f1_ := HS.out.c 1 0 (v := .int .i64 (d : Int)) rfl rfl; have f2_ := HS.out.c 1 1 (v := .int .i64 (n : Int)) rfl rfl; have f3_ := HS.out.c 1 2 (v := .slice A l.length c) rfl rfl) | (go_at_call 42; refine (implIs d n A c l _ (HS.out.oldC HR.out) hc HB.out).mono ?_; rintro e_ w1 ⟨rfl, hb⟩; replace HS := sB HS hb; clear hb f1_ f2_ f3_; have f1_ := HS.out.c 1 0 (v := .int .i64 (d : Int)) rfl rfl; have f2_ := HS.out.c 1 1 (v := .int .i64 (n : Int)) rfl rfl; have f3_ := HS.out.c 1 2 (v := .slice A l.length c) rfl rfl) | (go_at_call 126; refine (HOP.out _ (HS.out.oldC HR.out)).mono ?_; rintro e_ w1 ⟨g, v, rfl, hs⟩; replace HS := sN2 HS hs; clear hs f1_ f2_ f3_; have f1_ := HS.out.c 0 2 (v := .slice (some ⟨v, 0, none⟩) N N) rfl rfl; have f2_ := ((tab_at0 (HS.out.at (i := 1) rfl)).1.trans (by rw [HE.out])); have f3_ := ((tab_at0 (HS.out.at (i := 1) rfl)).2.trans (by rw [HE.out]))) | ((with_reducible refine gate_dst (N := 5) rfl ?_); refine bxL 24 #[(.int .i64 0), (.int .i64 0)] HS ?_; clear HS f1_ f2_ f3_; intro g_cc w1 hg_cc HS) | ((with_reducible refine gate_store (t := 24) (p := 5) rfl ?_); refine stL HS 0 0 #[.int .i64 e.1, .int .i64 e.2] rfl rfl rfl rfl rfl ?_; clear HS; intro w1 HS; have f1_ := HS.out.c 0 0 (v := .int .i64 e.1) rfl rfl; have f2_ := HS.out.c 0 1 (v := .int .i64 e.2) rfl rfl) | (go_at_call 97; refine (HRD.out _).mono ?_; rintro e_ w1 ⟨rfl, hb⟩; replace HS := sB HS hb; clear hb f1_ f2_) | ((with_reducible refine gate_dst (N := 6) rfl ?_); refine bxL 24 #[(.int .i64 0), (.int .i64 0)] HS ?_; clear HS; intro g_bk w1 hg_bk HS) | ((with_reducible refine gate_store (t := 24) (p := 6) rfl ?_); refine stL HS 0 0 #[.int .i64 q.1, .int .i64 q.2] rfl rfl rfl rfl rfl ?_; clear HS; intro w1 HS; have f1_ := HS.out.c 0 0 (v := .int .i64 q.1) rfl rfl; have f2_ := HS.out.c 0 1 (v := .int .i64 q.2) rfl rfl) | (go_at_call 140; refine (HSC.out g v q hqf.out _ (HS.out.at (i := 2) rfl) (HS.out.at (i := 3) rfl)).mono ?_; rintro e_ w1 ⟨g3, v3, F3, rfl, hF, hQ, hs⟩; replace HS := sN2 HS hs; clear hs f1_ f2_; have HF3 := Aside0.mk hF; have HQ3 := Aside0.mk hQ; clear hF hQ) | (go_at_call 166; refine (tabLess HL.out ⟨HF3.out, HQ3.out, HS.out.at (i := 0) rfl, HS.out.at (i := 1) rfl⟩).mono ?_; rintro e_ w1 ⟨g4, v4, F4, rfl, hF, hQ, hs⟩; replace HS := sN2 HS hs; clear hs; have HF4 := Aside0.mk hF; have HQ4 := Aside0.mk hQ; clear hF hQ))
      replace HS := sD HS
      refine ps (.p 0 (.t 2 (.e 1 (.d 3 (.d 4 (.p 5 (.p 6 (.d 7 (.p 8 .done))))))))) (fun w' => w'.cell? ⟨g_bk, 0, none⟩ = some (.int .i64 q.1) ∧ w'.cell? ⟨g_bk, 1, none⟩ = some (.int .i64 q.2)) [3, 4, 7] ⟨HS.out.c 4 0 (v := .int .i64 q.1) rfl rfl, HS.out.c 4 1 (v := .int .i64 q.2) rfl rfl⟩ (fun hHeld => ?_)
      repeat (first | ((with_reducible refine gate_p ?_); refine rp rfl rfl ?_) | ((with_reducible refine gate_t ?_); refine rt rfl rfl hHeld ?_))
      refine run_e rfl (fun K hK => ?_)
      refine gc Try.func167 (tabPowers_inv HL.out ⟨HF4.out, HQ4.out, HS.out.at (i := 0) rfl, HS.out.at (i := 1) rfl⟩) rfl rfl ?_
      rintro e_ w1 ⟨g5, v5, F5, rfl, hF, hQ, hs⟩
      refine ⟨_, rfl, ?_⟩
      replace HS := sN2 HS hs
      clear hs
      have HF5 := Aside0.mk hF; have HQ5 := Aside0.mk hQ; clear hF hQ
      refine ge hK ⟨HS.out.c 6 0 (v := .int .i64 q.1) rfl rfl, HS.out.c 6 1 (v := .int .i64 q.2) rfl rfl⟩ (fun hHeld => ?_)
      clear hK K
      refine run_d rfl (fun K hK => ?_)
      refine gc Try.func140 (tabScaled HL.out ⟨HF5.out, HQ5.out, HS.out.at (i := 0) rfl, HS.out.at (i := 1) rfl⟩ hqf.out) rfl rfl ?_
      rintro e_ w1 ⟨g6, v6, F6, rfl, hF, hQ, hs⟩
      refine ⟨_, rfl, ?_⟩
      replace HS := sN2 HS hs
      clear hs
      have HF6 := Aside0.mk hF; have HQ6 := Aside0.mk hQ; clear hF hQ
      refine gd hK ?_
      clear hK K
      refine run_d rfl (fun K hK => ?_)
      refine gc Try.func116 (tabTold HL.out ⟨HF6.out, HQ6.out, HS.out.at (i := 0) rfl, HS.out.at (i := 1) rfl⟩) rfl rfl ?_
      rintro e_ w1 ⟨B, b, rfl, hs⟩
      refine ⟨_, rfl, ?_⟩
      replace HS := sN1 HS hs
      clear hs
      refine gd hK ?_
      clear hK K
      repeat (first | ((with_reducible refine gate_p ?_); refine rp rfl rfl ?_) | ((with_reducible refine gate_t ?_); refine rt rfl rfl hHeld ?_))
      refine run_d rfl (fun K hK => ?_)
      refine st1 HS 13 0 #[.int .i64 (resO d n ((outO d n ((scS l q).bind lessS) invC (n + 1)).bind fun z => scS z q)).1, .int .i64 (resO d n ((outO d n ((scS l q).bind lessS) invC (n + 1)).bind fun z => scS z q)).2.1, .slice B (resO d n ((outO d n ((scS l q).bind lessS) invC (n + 1)).bind fun z => scS z q)).2.2.1.length b] rfl rfl rfl rfl rfl ?_
      clear HS
      intro w1 HS
      refine goD hK rfl ?_
      clear hK K
      repeat (first | ((with_reducible refine gate_p ?_); refine rp rfl rfl ?_) | ((with_reducible refine gate_t ?_); refine rt rfl rfl hHeld ?_))
      refine run_done ?_
      clear hHeld
      go_wp2
      refine bodyPost_ret (results_cell_tmp_row rfl _ _ g_r 32 #[.int .i64 (resO d n ((outO d n ((scS l q).bind lessS) invC (n + 1)).bind fun z => scS z q)).1, .int .i64 (resO d n ((outO d n ((scS l q).bind lessS) invC (n + 1)).bind fun z => scS z q)).2.1, .slice B (resO d n ((outO d n ((scS l q).bind lessS) invC (n + 1)).bind fun z => scS z q)).2.2.1.length b] (0, 0) _ rfl (HS.out.at (i := 13) rfl) Try.underlying32 rfl (by kernel_rfl)) rfl ?_
      exact ⟨B, b, rfl, HS.out.sel [0] (by decide)⟩
end Go.Proofs.Ytcklblagklojhaa.H

