/- Plain facts and contracts of functions that the law's walk uses. Conditions: those that stand in each statement. -/
import Derived.Test.YtibjkjhpfmmjoaaGreatExG8
import Derived.Test.YtibjkjhpfmmjoaaGreatExG10
import Derived.Test.YtibjkjhpfmmjoaaGreatExG5
import Derived.Test.YtibjkjhpfmmjoaaGreatExG1
import Derived.Test.YtibjkjhpfmmjoaaGreatExG7
import Derived.Test.YtibjkjhpfmmjoaaGreatExG9
import Derived.Test.YtibjkjhpfmmjoaaGreatExG2
namespace Go.Proofs.YtibjkjhpfmmjoaaGreat.M
theorem over_red {a : Fr} (h : fr a = true) (h0 : a.1 ≠ 0) : rnum a.2 a.1 = (overF a).1 ∧ rden a.2 a.1 = (overF a).2 ∧ okN a.2 a.1 = true := by
  have h1 := (over_div h h0).1
  unfold frac at h1
  split at h1
  · rename_i hh
    injection h1 with h1
    rw [← h1]
    exact ⟨rfl, rfl, hh.2⟩
  · cases h1
theorem over_ne {a : Fr} (h : fr a = true) (h0 : a.1 ≠ 0) : (overF a).1 ≠ 0 := by
  have := fr_den h
  unfold overF
  split
  · show -a.2 ≠ 0; omega
  · show a.2 ≠ 0; omega
theorem div_one {a : Fr} (h : fr a = true) (h0 : a.1 ≠ 0) : div (1, 1) a = some (overF a) := by
  unfold div
  rw [Int.one_mul, Int.one_mul]
  exact (over_div h h0).1
theorem inv_at (k : Nat) : ((sgI k, 1) : Fr) = invC k := rfl
def invR (d n : Int) (l : Ts) : Rs := if isS d n l = true then if (co l eps).1 = 0 then noS 5 else resO d n (invS d.toNat n.toNat l) else noS 1
end Go.Proofs.YtibjkjhpfmmjoaaGreat.M
namespace Go.Proofs.YtibjkjhpfmmjoaaGreat.H
open Go.RowKit Go.Proofs.YtibjkjhpfmmjoaaGreatW.PrintWords Go.Proofs.YtibjkjhpfmmjoaaGreatW.PrintLast Go.Proofs.YtibjkjhpfmmjoaaGreatW.PrintMore Go.Proofs.YtibjkjhpfmmjoaaGreat.M
attribute [local go_sem] max2_int min2_int max_two min_two max_three min_three max_four min_four resQ
set_option linter.unusedVariables false
set_option linter.unusedSimpArgs false
set_option maxRecDepth 100000
theorem implInv1 (k : Nat) (hk : k ≤ 5) (w : World) : Calls Tryz.prog 56 #[.int .i64 (k : Int)] w fun e w' => e = .returned (.agg #[.int .i64 (invC k).1, .int .i64 (invC k).2]) ∧ Below w.heap.size w w' := by
  have HS := Aside0.mk (Sep.refl w)
  go_enter Tryz.func56, Tryz.ntmps56
  go_wp2_with (first | ((with_reducible refine gate_dst (N := 2) rfl ?_); refine bxL 37 #[(.int .i64 0), (.int .i64 0)] HS ?_; clear HS; intro g_r w1 hg_r HS) | (go_at_call 57; refine (implSign k (by omega) _).mono ?_; rintro e_ w1 ⟨rfl, hb⟩; replace HS := sB HS hb; clear hb) | (go_at_call 47; refine (implWhole (sgI k) _).mono ?_; rintro e_ w1 ⟨rfl, hb⟩; replace HS := sB HS hb; clear hb) | ((with_reducible refine gate_store (t := 37) (p := 2) rfl ?_); refine stL HS 0 0 #[.int .i64 (sgI k), .int .i64 1] rfl rfl rfl rfl rfl ?_; clear HS; intro w1 HS))
  refine bodyPost_ret (results_cell_row rfl _ _ g_r 37 #[.int .i64 (sgI k), .int .i64 1] (0, 0) _ rfl (HS.out.at (i := 0) rfl) Tryz.underlying37 rfl (by kernel_rfl)) rfl ?_
  exact ⟨by rw [← inv_at], HS.out.below⟩
set_option maxHeartbeats 8000000 in
theorem tabPowers_inv {w : World} {d n g v : Nat} {F : Tb} {o : Option Ts} (hl : lev d n = true) (h : TabI w g v d n F o) :
    Calls Tryz.prog 55 #[.pointer (some ⟨g, 0, none⟩), .int .i64 0, .func (.func 56) #[] #[]] w (RetT w d n (outO d n o invC (n + 1))) := by
  obtain ⟨hd1, hd3, hn1, hn5⟩ := lev_bd hl
  have HL := Aside0.mk hl
  have H1 := Aside0.mk h
  have HT := Aside0.mk h.2.2.1
  have HS := Aside0.mk (Sep.refl w)
  have HPP := Aside0.mk (fun k (h : 0 < k) => (by obtain ⟨j, rfl⟩ : ∃ j, k = j + 1 := ⟨k - 1, by omega⟩; rfl : two (mulS d n) (powO d n o (k - 1)) o = powO d n o k))
  have HOS := Aside0.mk (fun k => outO_step (d := d) (n := n) (o := o) (c := invC) (k := k) (invC_ne k))
  clear hl h
  go_enter Tryz.func55, Tryz.ntmps55
  go_wp2_with (first | (go_at_call 110; refine (tabLike HL.out (H1.out.old HS.out)).mono ?_; rintro e_ w1 ⟨go, vo, Fo, rfl, hF, hQ, hs⟩; replace HS := sN2 HS hs; clear hs; have HFo := Aside0.mk hF; have HQo := Aside0.mk hQ; clear hF hQ) | (go_at_call 63; refine (tabUnit HL.out (H1.out.old HS.out)).mono ?_; rintro e_ w1 ⟨gp, vp, Fp, rfl, hF, hQ, hs⟩; replace HS := sN2 HS hs; clear hs; have HFp := Aside0.mk hF; have HQp := Aside0.mk hQ; clear hF hQ; have f1_ := bx_c (HS.out.oldI HT.out) 1 (v := .int .i64 (n : Int)) rfl))
  go_loopw [7, 8, 19] (fun x y q w' => ∃ (k go vo : Nat) (Fo : Tb) (gp vp : Nat) (Fp : Tb), k ≤ n + 1 ∧ q = .int .i64 (k : Int) ∧ x = .pointer (some ⟨go, 0, none⟩) ∧ y = .pointer (some ⟨gp, 0, none⟩) ∧ Aside0 (good Fo.1) ∧ Aside0 (Rel d n (outO d n o invC k) Fo) ∧ Aside0 (good Fp.1) ∧ Aside0 (Rel d n (powO d n o (k - 1)) Fp) ∧ Aside0 (Mod w w' No [tS gp vp d n (nW d n) Fp.2, tV vp d n Fp.1, tS go vo d n (nW d n) Fo.2, tV vo d n Fo.1])) (fun _ _ q _ => n + 1 - (intOf q).toNat)
  case atStart => exact ⟨0, go, vo, Fo, gp, vp, Fp, by omega, rfl, rfl, rfl, HFo, HQo, HFp, HQp, HS⟩
  case round =>
    clear HS HFo HQo HFp HQp
    obtain ⟨k, go, vo, Fo, gp, vp, Fp, hk, rfl, rfl, rfl, HFo, HQo, HFp, HQp, HS⟩ := hrel
    by_cases hlt : k < n + 1
    · by_cases h0 : 0 < k
      · have hpk := HPP.out k h0
        have HON := Aside0.mk (HOS.out k)
        go_wp2_with (first | (go_at_call 60; refine (tabTimes HL.out ⟨HFp.out, HQp.out, HS.out.at (i := 0) rfl, HS.out.at (i := 1) rfl⟩ (H1.out.old HS.out)).mono ?_; rintro e_ w1 ⟨gb, vb, Fb, rfl, hF, hQ, hs⟩; replace HS := sN2 HS hs; clear hs; have HFb := Aside0.mk hF; have HQb := Aside0.mk (hpk ▸ hQ); clear hF hQ) | (go_at_call 56; refine (implInv1 k (by omega) _).mono ?_; rintro e_ w1 ⟨rfl, hb⟩; replace HS := sB HS hb; clear hb) | (go_at_call 53; refine (tabScaled HL.out ⟨HFb.out, HQb.out, HS.out.at (i := 0) rfl, HS.out.at (i := 1) rfl⟩ (invC_fr k)).mono ?_; rintro e_ w1 ⟨gc, vc, Fc, rfl, hF, hQ, hs⟩; replace HS := sN2 HS hs; clear hs; have HFc := Aside0.mk hF; have HQc := Aside0.mk hQ; clear hF hQ) | (go_at_call 112; refine (tabSum HL.out ⟨HFo.out, HQo.out, HS.out.at (i := 6) rfl, HS.out.at (i := 7) rfl⟩ ⟨HFc.out, HQc.out, HS.out.at (i := 0) rfl, HS.out.at (i := 1) rfl⟩).mono ?_; rintro e_ w1 ⟨gd, vd, Fd, rfl, hF, hQ, hs⟩; replace HS := sN2 HS hs; clear hs; have HFd := Aside0.mk hF; have HQd := Aside0.mk hQ; clear hF hQ))
        go_roundw
        case rel => exact ⟨k + 1, gd, vd, Fd, gb, vb, Fb, by omega, by go_num, rfl, rfl, HFd, ⟨HON.out ▸ HQd.out⟩, HFb, HQb, sX HS [4, 5, 0, 1]⟩
        case measure => simp [intOf]; omega
      · have HP0 := Aside0.mk (show powO d n o (k - 1) = powO d n o k by rw [show k - 1 = k by omega])
        have HK0 := Aside0.mk (show k = 0 by omega)
        rw [HP0.out] at HQp
        have HON := Aside0.mk (HOS.out k)
        go_wp2_with (first | (go_at_call 56; refine (implInv1 k (by omega) _).mono ?_; rintro e_ w1 ⟨rfl, hb⟩; replace HS := sB HS hb; clear hb) | (go_at_call 53; refine (tabScaled HL.out ⟨HFp.out, HQp.out, HS.out.at (i := 0) rfl, HS.out.at (i := 1) rfl⟩ (invC_fr k)).mono ?_; rintro e_ w1 ⟨gc, vc, Fc, rfl, hF, hQ, hs⟩; replace HS := sN2 HS hs; clear hs; have HFc := Aside0.mk hF; have HQc := Aside0.mk hQ; clear hF hQ) | (go_at_call 112; refine (tabSum HL.out ⟨HFo.out, HQo.out, HS.out.at (i := 4) rfl, HS.out.at (i := 5) rfl⟩ ⟨HFc.out, HQc.out, HS.out.at (i := 0) rfl, HS.out.at (i := 1) rfl⟩).mono ?_; rintro e_ w1 ⟨gd, vd, Fd, rfl, hF, hQ, hs⟩; replace HS := sN2 HS hs; clear hs; have HFd := Aside0.mk hF; have HQd := Aside0.mk hQ; clear hF hQ))
        go_roundw
        case rel => exact ⟨k + 1, gd, vd, Fd, gp, vp, Fp, by omega, by go_num, rfl, rfl, HFd, ⟨HON.out ▸ HQd.out⟩, HFp, HQp, sX HS [4, 5, 0, 1]⟩
        case measure => simp [intOf]; omega
    · obtain rfl : k = n + 1 := by omega
      go_wp2
      go_ret
      exact ⟨go, vo, Fo, rfl, HFo.out, HQo.out, HS.out.sel [2, 3] (by decide)⟩
set_option maxHeartbeats 8000000 in
theorem specInvQ (d n : Nat) (hd : d ≤ 3) (hn1 : 1 ≤ n) (hn : n ≤ 5) (A : Option Addr) (c : Nat) (l : Ts) (w : World) (hr : KT.C w A l.length l) (hc : l.length ≤ c) (hx : isTs d n l = true) (h0 : (co l eps).1 ≠ 0) :
    Calls Tryz.prog 58 #[.agg #[.int .i64 (d : Int), .int .i64 (n : Int), .slice A l.length c]] w (RetQ w (resQ d n (invS d n l))) := by
  have hd9 : d ≤ 9 := by omega
  have HR := Aside0.mk hr
  have hfe := co_fr hx eps
  have HCN := Aside0.mk (fun W k1 => specConstant d n A c l W k1 hc (isTs_bnd hd hn hx))
  unfold invS
  obtain ⟨e, he⟩ : ∃ e : Fr, e = co l eps := ⟨_, rfl⟩
  rw [← he] at HCN h0 hfe
  rw [← he]
  have hqf := (over_div hfe h0).2
  have hq0 := over_ne hfe h0
  have HOV := Aside0.mk (fun W => div_one hfe h0 ▸ specOver 1 1 e.1 e.2 W ⟨by omega, by omega, by omega, by omega⟩ (fr_small hfe))
  obtain ⟨q, hq⟩ : ∃ q, q = overF e := ⟨_, rfl⟩
  rw [← hq] at hqf hq0 HOV
  rw [← hq]
  have HLQ := Aside0.mk (fun W k1 => specLessQ d n hd hn A c l q W k1 hx hqf hq0)
  have HY0 := Aside0.mk (fun y (h : (scS l q).bind lessS = some y) => (by
    cases hs : scS l q with
    | none => rw [hs] at h; cases h
    | some z => rw [hs] at h; exact less_ts hd9 (scale_ts hd9 hx hqf hs) h : isTs d n y = true))
  have HAK := Aside0.mk (fun B b B2 b2 z W k1 k2 (k3 : isTs d n z = true) => addk_nil hd9 k3 hqf ▸ specAddk d n hd hn B b [] B2 b2 z q W k1 k2 (isTs_nil d n) k3 hqf hq0)
  obtain ⟨o, ho⟩ : ∃ o, o = (scS l q).bind lessS := ⟨_, rfl⟩
  rw [← ho] at HLQ HY0
  rw [← ho]
  have HS := Aside0.mk (Sep.refl w)
  clear hr hx ho hq he h0 hfe hqf hq0
  cases o with
  | none =>
    rw [outO_none (show 2 ≤ n + 1 by omega)]
    go_enter Tryz.func58, Tryz.ntmps58
    go_wp2_with (first | ((with_reducible refine gate_dst (N := 1) rfl ?_); refine bxL 26 #[.int .i64 (d : Int), .int .i64 (n : Int), .slice A l.length c] HS ?_; clear HS; intro g_p w1 hg_p HS) | ((with_reducible refine gate_dst (N := 2) rfl ?_); refine bxL 26 #[(.int .i64 0), (.int .i64 0), (.slice none 0 0)] HS ?_; clear HS; intro g_r w1 hg_r HS; have f1_ := HS.out.c 1 0 (v := .int .i64 (d : Int)) rfl rfl; have f2_ := HS.out.c 1 1 (v := .int .i64 (n : Int)) rfl rfl; have f3_ := HS.out.c 1 2 (v := .slice A l.length c) rfl rfl) | (go_at_call 44; refine (HCN.out _ (HS.out.oldC HR.out)).mono ?_; rintro e_ w1 ⟨rfl, hb⟩; replace HS := sB HS hb; clear hb f1_ f2_ f3_) | ((with_reducible refine gate_dst (N := 4) rfl ?_); refine bxL 37 #[(.int .i64 0), (.int .i64 0)] HS ?_; clear HS; intro g_cc w1 hg_cc HS) | ((with_reducible refine gate_store (t := 37) (p := 4) rfl ?_); refine stL HS 0 0 #[.int .i64 e.1, .int .i64 e.2] rfl rfl rfl rfl rfl ?_; clear HS; intro w1 HS))
    replace HS := sD HS
    apply region_told ((fun (A0_ : Nat → Act) (a' : Act) (w' : World) => ∃ (g_bk : Nat), a' = A0_ g_bk ∧ Aside0 (Mod w w' No [bx g_bk 37 #[.int .i64 q.1, .int .i64 q.2], bx g_cc 37 #[.int .i64 e.1, .int .i64 e.2], bx g_r 26 #[(.int .i64 0), (.int .i64 0), (.slice none 0 0)], bx g_p 26 #[.int .i64 (d : Int), .int .i64 (n : Int), .slice A l.length c]])) _)
    case h1 =>
      refine ps (.t 1 (.two 0 6 (.two 2 6 (.p 3 (.p 4 (.p 5 (.e 6 (.d 7 (.p 8 .done)))))) (.e 2 (.p 3 (.p 4 (.p 5 (.d 7 (.p 8 .done))))))) (.e 0 (.e 2 (.p 3 (.p 4 (.p 5 (.d 7 (.p 8 .done))))))))) (fun w' => w'.cell? ⟨g_cc, 0, none⟩ = some (.int .i64 e.1) ∧ w'.cell? ⟨g_cc, 1, none⟩ = some (.int .i64 e.2)) [7] ⟨HS.out.c 0 0 (v := .int .i64 e.1) rfl rfl, HS.out.c 0 1 (v := .int .i64 e.2) rfl rfl⟩ (fun hHeld => ?_)
      repeat (first | ((with_reducible refine gate_p ?_); refine rp rfl rfl ?_) | ((with_reducible refine gate_t ?_); refine rt rfl rfl hHeld ?_))
      refine run_two ?_ ?_
      · skip
        refine run_e rfl (fun K hK => ?_)
        refine gc Tryz.func49 (specOne 1 _) rfl rfl ?_
        rintro e_ w1 ⟨rfl, hb⟩
        refine ⟨_, rfl, ?_⟩
        replace HS := sB HS hb
        refine ge hK ⟨HS.out.c 0 0 (v := .int .i64 e.1) rfl rfl, HS.out.c 0 1 (v := .int .i64 e.2) rfl rfl⟩ (fun hHeld => ?_)
        refine run_two ?_ ?_
        · skip
          refine run_e rfl (fun K hK => ?_)
          refine gc Tryz.func113 (HOV.out _) rfl rfl ?_
          rintro e_ w1 ⟨rfl, hb⟩
          refine ⟨_, rfl, ?_⟩
          replace HS := sB HS hb
          refine ge hK ⟨HS.out.c 0 0 (v := .int .i64 e.1) rfl rfl, HS.out.c 0 1 (v := .int .i64 e.2) rfl rfl⟩ (fun hHeld => ?_)
          repeat (first | ((with_reducible refine gate_p ?_); refine rp rfl rfl ?_) | ((with_reducible refine gate_t ?_); refine rt rfl rfl hHeld ?_))
          refine run_e rfl (fun K hK => ?_)
          refine bx1 37 #[(.int .i64 0), (.int .i64 0)] HS ?_
          intro g_bk w1 hg_bk HS
          refine ge hK ⟨HS.out.c 1 0 (v := .int .i64 e.1) rfl rfl, HS.out.c 1 1 (v := .int .i64 e.2) rfl rfl⟩ (fun hHeld => ?_)
          refine run_d rfl (fun K hK => ?_)
          refine st1 HS 0 0 #[.int .i64 q.1, .int .i64 q.2] rfl rfl rfl rfl rfl ?_
          intro w1 HS
          refine goD hK rfl ?_
          repeat (first | ((with_reducible refine gate_p ?_); refine rp rfl rfl ?_) | ((with_reducible refine gate_t ?_); refine rt rfl rfl hHeld ?_))
          refine run_done ?_
          exact ⟨g_bk, rfl, HS⟩
        · skip
          refine run_e rfl (fun K hK => ?_)
          refine bx1 37 #[(.int .i64 0), (.int .i64 0)] HS ?_
          intro g_bk w1 hg_bk HS
          refine ge hK ⟨HS.out.c 1 0 (v := .int .i64 e.1) rfl rfl, HS.out.c 1 1 (v := .int .i64 e.2) rfl rfl⟩ (fun hHeld => ?_)
          refine run_e rfl (fun K hK => ?_)
          refine gc Tryz.func113 (HOV.out _) rfl rfl ?_
          rintro e_ w1 ⟨rfl, hb⟩
          refine ⟨_, rfl, ?_⟩
          replace HS := sB HS hb
          refine ge hK ⟨HS.out.c 1 0 (v := .int .i64 e.1) rfl rfl, HS.out.c 1 1 (v := .int .i64 e.2) rfl rfl⟩ (fun hHeld => ?_)
          repeat (first | ((with_reducible refine gate_p ?_); refine rp rfl rfl ?_) | ((with_reducible refine gate_t ?_); refine rt rfl rfl hHeld ?_))
          refine run_d rfl (fun K hK => ?_)
          refine st1 HS 0 0 #[.int .i64 q.1, .int .i64 q.2] rfl rfl rfl rfl rfl ?_
          intro w1 HS
          refine goD hK rfl ?_
          repeat (first | ((with_reducible refine gate_p ?_); refine rp rfl rfl ?_) | ((with_reducible refine gate_t ?_); refine rt rfl rfl hHeld ?_))
          refine run_done ?_
          have n_ := HS.out.sel [0, 1, 2, 3] (by decide)
          simp only [List.filterMap_cons, List.filterMap_nil, List.getElem?_cons_zero, List.getElem?_cons_succ] at n_
          exact ⟨g_bk, rfl, ⟨n_⟩⟩
      · skip
        refine run_e rfl (fun K hK => ?_)
        refine bx1 37 #[(.int .i64 0), (.int .i64 0)] HS ?_
        intro g_bk w1 hg_bk HS
        refine ge hK ⟨HS.out.c 1 0 (v := .int .i64 e.1) rfl rfl, HS.out.c 1 1 (v := .int .i64 e.2) rfl rfl⟩ (fun hHeld => ?_)
        refine run_e rfl (fun K hK => ?_)
        refine gc Tryz.func49 (specOne 1 _) rfl rfl ?_
        rintro e_ w1 ⟨rfl, hb⟩
        refine ⟨_, rfl, ?_⟩
        replace HS := sB HS hb
        refine ge hK ⟨HS.out.c 1 0 (v := .int .i64 e.1) rfl rfl, HS.out.c 1 1 (v := .int .i64 e.2) rfl rfl⟩ (fun hHeld => ?_)
        refine run_e rfl (fun K hK => ?_)
        refine gc Tryz.func113 (HOV.out _) rfl rfl ?_
        rintro e_ w1 ⟨rfl, hb⟩
        refine ⟨_, rfl, ?_⟩
        replace HS := sB HS hb
        refine ge hK ⟨HS.out.c 1 0 (v := .int .i64 e.1) rfl rfl, HS.out.c 1 1 (v := .int .i64 e.2) rfl rfl⟩ (fun hHeld => ?_)
        repeat (first | ((with_reducible refine gate_p ?_); refine rp rfl rfl ?_) | ((with_reducible refine gate_t ?_); refine rt rfl rfl hHeld ?_))
        refine run_d rfl (fun K hK => ?_)
        refine st1 HS 0 0 #[.int .i64 q.1, .int .i64 q.2] rfl rfl rfl rfl rfl ?_
        intro w1 HS
        refine goD hK rfl ?_
        repeat (first | ((with_reducible refine gate_p ?_); refine rp rfl rfl ?_) | ((with_reducible refine gate_t ?_); refine rt rfl rfl hHeld ?_))
        refine run_done ?_
        have n_ := HS.out.sel [0, 1, 2, 3] (by decide)
        simp only [List.filterMap_cons, List.filterMap_nil, List.getElem?_cons_zero, List.getElem?_cons_succ] at n_
        exact ⟨g_bk, rfl, ⟨n_⟩⟩
    clear HS
    rintro a_ w1 ⟨g_bk, rfl, HS⟩
    have f1_ := HS.out.c 3 0 (v := .int .i64 (d : Int)) rfl rfl
    have f2_ := HS.out.c 3 1 (v := .int .i64 (n : Int)) rfl rfl
    have f3_ := HS.out.c 3 2 (v := .slice A l.length c) rfl rfl
    have f4_ := HS.out.c 0 0 (v := .int .i64 q.1) rfl rfl
    have f5_ := HS.out.c 0 1 (v := .int .i64 q.2) rfl rfl
    go_wp2_with (first | (go_at_call 107; refine (HLQ.out _ (HS.out.oldC HR.out)).mono ?_; rintro e_ w1 ⟨B, b, rfl, hs⟩; replace HS := sN1 HS hs; clear hs f1_ f2_ f3_ f4_ f5_) | ((with_reducible refine gate_dst (N := 7) rfl ?_); refine bxL 26 #[(.int .i64 0), (.int .i64 0), (.slice none 0 0)] HS ?_; clear HS; intro g_y w1 hg_y HS) | ((with_reducible refine gate_store (t := 26) (p := 7) rfl ?_); refine stL HS 0 0 #[.int .i64 0, .int .i64 0, .slice B ([] : Ts).length b] rfl rfl rfl rfl rfl ?_; clear HS; intro w1 HS) | ((with_reducible refine gate_store (t := 26) (p := 2) rfl ?_); refine stL HS 4 0 #[(.int .i64 0), (.int .i64 0), (.slice none 0 0)] rfl rfl rfl rfl rfl ?_; clear HS; intro w1 HS))
    refine bodyPost_ret (results_cell_tmp_row rfl _ _ g_r 26 #[(.int .i64 0), (.int .i64 0), (.slice none 0 0)] (0, 0) _ rfl (HS.out.at (i := 4) rfl) Tryz.underlying26 rfl (by kernel_rfl)) rfl ?_
    exact ⟨none, 0, rfl, nilS (HS.out.sel [] (by decide))⟩
  | some yl =>
    have HX := Aside0.mk (HY0.out yl rfl)
    obtain ⟨o2, ho2⟩ : ∃ o2, o2 = outO d n (some yl) invC (n + 1) := ⟨_, rfl⟩
    have HP := Aside0.mk (fun B b C cs (y : List Fr) W k1 k0 k2 (k3 : y = numL invC y.length) (k4 : y.length = n + 1) => (ho2 ▸ specSumP d n (n + 1) hd hn B b yl C cs y invC W k1 k0 HX.out k2 k3 k4 (by omega) invC_fr : Calls Tryz.prog 105 _ W (RetQ W (resQ d n o2))))
    have HT2 := Aside0.mk (fun z (h : o2 = some z) => out_ts hd9 invC_fr (ho2.symm.trans h))
    rw [← ho2]
    clear ho2 HY0
    go_enter Tryz.func58, Tryz.ntmps58
    go_wp2_with (first | ((with_reducible refine gate_dst (N := 1) rfl ?_); refine bxL 26 #[.int .i64 (d : Int), .int .i64 (n : Int), .slice A l.length c] HS ?_; clear HS; intro g_p w1 hg_p HS) | ((with_reducible refine gate_dst (N := 2) rfl ?_); refine bxL 26 #[(.int .i64 0), (.int .i64 0), (.slice none 0 0)] HS ?_; clear HS; intro g_r w1 hg_r HS; have f1_ := HS.out.c 1 0 (v := .int .i64 (d : Int)) rfl rfl; have f2_ := HS.out.c 1 1 (v := .int .i64 (n : Int)) rfl rfl; have f3_ := HS.out.c 1 2 (v := .slice A l.length c) rfl rfl) | (go_at_call 44; refine (HCN.out _ (HS.out.oldC HR.out)).mono ?_; rintro e_ w1 ⟨rfl, hb⟩; replace HS := sB HS hb; clear hb f1_ f2_ f3_) | ((with_reducible refine gate_dst (N := 4) rfl ?_); refine bxL 37 #[(.int .i64 0), (.int .i64 0)] HS ?_; clear HS; intro g_cc w1 hg_cc HS) | ((with_reducible refine gate_store (t := 37) (p := 4) rfl ?_); refine stL HS 0 0 #[.int .i64 e.1, .int .i64 e.2] rfl rfl rfl rfl rfl ?_; clear HS; intro w1 HS))
    replace HS := sD HS
    apply region_told ((fun (A0_ : Nat → Act) (a' : Act) (w' : World) => ∃ (g_bk : Nat), a' = A0_ g_bk ∧ Aside0 (Mod w w' No [bx g_bk 37 #[.int .i64 q.1, .int .i64 q.2], bx g_cc 37 #[.int .i64 e.1, .int .i64 e.2], bx g_r 26 #[(.int .i64 0), (.int .i64 0), (.slice none 0 0)], bx g_p 26 #[.int .i64 (d : Int), .int .i64 (n : Int), .slice A l.length c]])) _)
    case h1 =>
      refine ps (.t 1 (.two 0 6 (.two 2 6 (.p 3 (.p 4 (.p 5 (.e 6 (.d 7 (.p 8 .done)))))) (.e 2 (.p 3 (.p 4 (.p 5 (.d 7 (.p 8 .done))))))) (.e 0 (.e 2 (.p 3 (.p 4 (.p 5 (.d 7 (.p 8 .done))))))))) (fun w' => w'.cell? ⟨g_cc, 0, none⟩ = some (.int .i64 e.1) ∧ w'.cell? ⟨g_cc, 1, none⟩ = some (.int .i64 e.2)) [7] ⟨HS.out.c 0 0 (v := .int .i64 e.1) rfl rfl, HS.out.c 0 1 (v := .int .i64 e.2) rfl rfl⟩ (fun hHeld => ?_)
      repeat (first | ((with_reducible refine gate_p ?_); refine rp rfl rfl ?_) | ((with_reducible refine gate_t ?_); refine rt rfl rfl hHeld ?_))
      refine run_two ?_ ?_
      · skip
        refine run_e rfl (fun K hK => ?_)
        refine gc Tryz.func49 (specOne 1 _) rfl rfl ?_
        rintro e_ w1 ⟨rfl, hb⟩
        refine ⟨_, rfl, ?_⟩
        replace HS := sB HS hb
        refine ge hK ⟨HS.out.c 0 0 (v := .int .i64 e.1) rfl rfl, HS.out.c 0 1 (v := .int .i64 e.2) rfl rfl⟩ (fun hHeld => ?_)
        refine run_two ?_ ?_
        · skip
          refine run_e rfl (fun K hK => ?_)
          refine gc Tryz.func113 (HOV.out _) rfl rfl ?_
          rintro e_ w1 ⟨rfl, hb⟩
          refine ⟨_, rfl, ?_⟩
          replace HS := sB HS hb
          refine ge hK ⟨HS.out.c 0 0 (v := .int .i64 e.1) rfl rfl, HS.out.c 0 1 (v := .int .i64 e.2) rfl rfl⟩ (fun hHeld => ?_)
          repeat (first | ((with_reducible refine gate_p ?_); refine rp rfl rfl ?_) | ((with_reducible refine gate_t ?_); refine rt rfl rfl hHeld ?_))
          refine run_e rfl (fun K hK => ?_)
          refine bx1 37 #[(.int .i64 0), (.int .i64 0)] HS ?_
          intro g_bk w1 hg_bk HS
          refine ge hK ⟨HS.out.c 1 0 (v := .int .i64 e.1) rfl rfl, HS.out.c 1 1 (v := .int .i64 e.2) rfl rfl⟩ (fun hHeld => ?_)
          refine run_d rfl (fun K hK => ?_)
          refine st1 HS 0 0 #[.int .i64 q.1, .int .i64 q.2] rfl rfl rfl rfl rfl ?_
          intro w1 HS
          refine goD hK rfl ?_
          repeat (first | ((with_reducible refine gate_p ?_); refine rp rfl rfl ?_) | ((with_reducible refine gate_t ?_); refine rt rfl rfl hHeld ?_))
          refine run_done ?_
          exact ⟨g_bk, rfl, HS⟩
        · skip
          refine run_e rfl (fun K hK => ?_)
          refine bx1 37 #[(.int .i64 0), (.int .i64 0)] HS ?_
          intro g_bk w1 hg_bk HS
          refine ge hK ⟨HS.out.c 1 0 (v := .int .i64 e.1) rfl rfl, HS.out.c 1 1 (v := .int .i64 e.2) rfl rfl⟩ (fun hHeld => ?_)
          refine run_e rfl (fun K hK => ?_)
          refine gc Tryz.func113 (HOV.out _) rfl rfl ?_
          rintro e_ w1 ⟨rfl, hb⟩
          refine ⟨_, rfl, ?_⟩
          replace HS := sB HS hb
          refine ge hK ⟨HS.out.c 1 0 (v := .int .i64 e.1) rfl rfl, HS.out.c 1 1 (v := .int .i64 e.2) rfl rfl⟩ (fun hHeld => ?_)
          repeat (first | ((with_reducible refine gate_p ?_); refine rp rfl rfl ?_) | ((with_reducible refine gate_t ?_); refine rt rfl rfl hHeld ?_))
          refine run_d rfl (fun K hK => ?_)
          refine st1 HS 0 0 #[.int .i64 q.1, .int .i64 q.2] rfl rfl rfl rfl rfl ?_
          intro w1 HS
          refine goD hK rfl ?_
          repeat (first | ((with_reducible refine gate_p ?_); refine rp rfl rfl ?_) | ((with_reducible refine gate_t ?_); refine rt rfl rfl hHeld ?_))
          refine run_done ?_
          have n_ := HS.out.sel [0, 1, 2, 3] (by decide)
          simp only [List.filterMap_cons, List.filterMap_nil, List.getElem?_cons_zero, List.getElem?_cons_succ] at n_
          exact ⟨g_bk, rfl, ⟨n_⟩⟩
      · skip
        refine run_e rfl (fun K hK => ?_)
        refine bx1 37 #[(.int .i64 0), (.int .i64 0)] HS ?_
        intro g_bk w1 hg_bk HS
        refine ge hK ⟨HS.out.c 1 0 (v := .int .i64 e.1) rfl rfl, HS.out.c 1 1 (v := .int .i64 e.2) rfl rfl⟩ (fun hHeld => ?_)
        refine run_e rfl (fun K hK => ?_)
        refine gc Tryz.func49 (specOne 1 _) rfl rfl ?_
        rintro e_ w1 ⟨rfl, hb⟩
        refine ⟨_, rfl, ?_⟩
        replace HS := sB HS hb
        refine ge hK ⟨HS.out.c 1 0 (v := .int .i64 e.1) rfl rfl, HS.out.c 1 1 (v := .int .i64 e.2) rfl rfl⟩ (fun hHeld => ?_)
        refine run_e rfl (fun K hK => ?_)
        refine gc Tryz.func113 (HOV.out _) rfl rfl ?_
        rintro e_ w1 ⟨rfl, hb⟩
        refine ⟨_, rfl, ?_⟩
        replace HS := sB HS hb
        refine ge hK ⟨HS.out.c 1 0 (v := .int .i64 e.1) rfl rfl, HS.out.c 1 1 (v := .int .i64 e.2) rfl rfl⟩ (fun hHeld => ?_)
        repeat (first | ((with_reducible refine gate_p ?_); refine rp rfl rfl ?_) | ((with_reducible refine gate_t ?_); refine rt rfl rfl hHeld ?_))
        refine run_d rfl (fun K hK => ?_)
        refine st1 HS 0 0 #[.int .i64 q.1, .int .i64 q.2] rfl rfl rfl rfl rfl ?_
        intro w1 HS
        refine goD hK rfl ?_
        repeat (first | ((with_reducible refine gate_p ?_); refine rp rfl rfl ?_) | ((with_reducible refine gate_t ?_); refine rt rfl rfl hHeld ?_))
        refine run_done ?_
        have n_ := HS.out.sel [0, 1, 2, 3] (by decide)
        simp only [List.filterMap_cons, List.filterMap_nil, List.getElem?_cons_zero, List.getElem?_cons_succ] at n_
        exact ⟨g_bk, rfl, ⟨n_⟩⟩
    clear HS
    rintro a_ w1 ⟨g_bk, rfl, HS⟩
    have f1_ := HS.out.c 3 0 (v := .int .i64 (d : Int)) rfl rfl
    have f2_ := HS.out.c 3 1 (v := .int .i64 (n : Int)) rfl rfl
    have f3_ := HS.out.c 3 2 (v := .slice A l.length c) rfl rfl
    have f4_ := HS.out.c 0 0 (v := .int .i64 q.1) rfl rfl
    have f5_ := HS.out.c 0 1 (v := .int .i64 q.2) rfl rfl
    go_wp2_with (first | (go_at_call 107; refine (HLQ.out _ (HS.out.oldC HR.out)).mono ?_; rintro e_ w1 ⟨B, b, rfl, hs⟩; replace HS := sN1 HS hs; clear hs f1_ f2_ f3_ f4_ f5_) | ((with_reducible refine gate_dst (N := 7) rfl ?_); refine bxL 26 #[(.int .i64 0), (.int .i64 0), (.slice none 0 0)] HS ?_; clear HS; intro g_y w1 hg_y HS) | ((with_reducible refine gate_store (t := 26) (p := 7) rfl ?_); refine stL HS 0 0 #[.int .i64 (d : Int), .int .i64 (n : Int), .slice B yl.length b] rfl rfl rfl rfl rfl ?_; clear HS; intro w1 HS) | ((with_reducible refine gate_dst (N := 36) rfl ?_); refine wpList_stp (fun K hK => ?_); refine stp_lit (KF) rfl 37 (by rfl) HS (xs := ([] : List Fr)) (inner := []) (by first | (go_simp; done) | (go_simp; rfl)) (fun W base ok => Reps.none _ _) (by simp) ?_; clear HS; intro A_s c_s w1 HS; refine hK _ _ ?_; clear hK K))
    go_loopw [9, 10] (fun x v w' => ∃ (k : Nat) (C : Option Addr) (cs : Nat) (y : List Fr), k ≤ n + 1 ∧ v = .int .i64 (k : Int) ∧ x = .slice C y.length cs ∧ Aside0 (y = numL invC k) ∧ Aside0 (Mod w w' No [rowF C cs y, bx g_y 26 #[.int .i64 (d : Int), .int .i64 (n : Int), .slice B yl.length b], rowT B b yl, bx g_bk 37 #[.int .i64 q.1, .int .i64 q.2], bx g_cc 37 #[.int .i64 e.1, .int .i64 e.2], bx g_r 26 #[(.int .i64 0), (.int .i64 0), (.slice none 0 0)], bx g_p 26 #[.int .i64 (d : Int), .int .i64 (n : Int), .slice A l.length c]])) (fun _ v _ => n + 1 - (intOf v).toNat)
    case atStart => exact ⟨0, A_s, c_s, [], by omega, rfl, rfl, ⟨rfl⟩, HS⟩
    case round =>
      clear HS
      obtain ⟨k, C, cs, y, hk, rfl, rfl, HY, HS⟩ := hrel
      by_cases hlt : k ≤ n
      · have hyl : y.length ≤ 6 := by rw [HY.out, numL_len]; omega
        have HW0 := Aside0.mk (show ((1 - 2 * ((k : Int) % 2), 1) : Fr) = invC k from Prod.ext (five (p := fun k => 1 - 2 * ((k : Int) % 2) = (invC k).1) (by decide) (by decide) (by decide) (by decide) (by decide) (by decide) k (by omega)) rfl)
        have f1_ := HS.out.c 6 1 (v := .int .i64 (n : Int)) rfl rfl
        go_wp2_with (first | (go_at_call 49; refine (specOne (1 - 2 * ((k : Int) % 2)) _).mono ?_; rintro e_ w1 ⟨rfl, hb⟩; replace HS := sB HS hb; clear hb f1_) | ((with_reducible refine gate_builtin (b := .append) (xs := #[.tmp 43, .tmp 49]) rfl ?_); at_builtin; refine wpList_stp (fun K hK => ?_); refine stp_app (KF) rfl (by rfl) HS 0 rfl (.tmp 43) (.tmp 49) 58 37 (.agg #[(.int .i64 0), (.int .i64 0)]) 16 rfl Tryz.underlying58 infoFrac (by kernel_rfl) (((1 - 2 * ((k : Int) % 2), 1) : Fr)) [.int .i64 (1 - 2 * ((k : Int) % 2)), .int .i64 1] rfl (by first | rfl | (show Value.slice (some ⟨_, 0, none⟩) 1 1 = _; simp)) (KF_M (1 - 2 * ((k : Int) % 2), 1)) (by omega) ?_; clear HS; intro A_y' c_y' y' w1 Ny' HS; simp only [List.set_cons_zero, List.set_cons_succ] at HS; refine hK _ _ ?_; clear hK K))
        go_roundw
        case rel => exact ⟨k + 1, A_y', c_y', y', by omega, by go_num, rfl, ⟨by rw [Ny'.out, HY.out, numL_succ, HW0.out]⟩, HS⟩
        case measure => simp [intOf]; omega
      · obtain rfl : k = n + 1 := by omega
        have hy2 : y = numL invC y.length := by
          have h := HY.out
          rw [show y.length = n + 1 by rw [h, numL_len]]
          exact h
        have HY2 := Aside0.mk hy2
        clear hy2
        have HYL := Aside0.mk (show y.length = n + 1 by rw [HY.out, numL_len])
        cases o2 with
        | none =>
          have f1_ := HS.out.c 6 1 (v := .int .i64 (n : Int)) rfl rfl
          have f2_ := HS.out.c 1 0 (v := .int .i64 (d : Int)) rfl rfl
          have f3_ := HS.out.c 1 1 (v := .int .i64 (n : Int)) rfl rfl
          have f4_ := HS.out.c 1 2 (v := .slice B yl.length b) rfl rfl
          go_wp2_with (first | (go_at_call 105; refine (HP.out B b C cs y _ (HS.out.reads 2 rfl) (HS.out.cap 2 rfl) (HS.out.reads 0 rfl) HY2.out HYL.out).mono ?_; rintro e_ w1 ⟨B2, b2, rfl, hs⟩; replace HS := sN1 HS hs; clear hs f1_ f2_ f3_ f4_) | ((with_reducible refine gate_dst (N := 11) rfl ?_); refine bxL 26 #[(.int .i64 0), (.int .i64 0), (.slice none 0 0)] HS ?_; clear HS; intro g_z w1 hg_z HS) | ((with_reducible refine gate_store (t := 26) (p := 11) rfl ?_); refine stL HS 0 0 #[.int .i64 0, .int .i64 0, .slice B2 ([] : Ts).length b2] rfl rfl rfl rfl rfl ?_; clear HS; intro w1 HS) | ((with_reducible refine gate_store (t := 26) (p := 2) rfl ?_); refine stL HS 7 0 #[(.int .i64 0), (.int .i64 0), (.slice none 0 0)] rfl rfl rfl rfl rfl ?_; clear HS; intro w1 HS))
          refine bodyPost_ret (results_cell_tmp_row rfl _ _ g_r 26 #[(.int .i64 0), (.int .i64 0), (.slice none 0 0)] (0, 0) _ rfl (HS.out.at (i := 7) rfl) Tryz.underlying26 rfl (by kernel_rfl)) rfl ?_
          exact ⟨none, 0, rfl, nilS (HS.out.sel [] (by decide))⟩
        | some zl =>
          obtain ⟨R, hR⟩ : ∃ R, R = resQ d n (scS zl q) := ⟨_, rfl⟩
          have HAQ := Aside0.mk (fun B b B2 b2 W k1 k2 => (hR ▸ HAK.out B b B2 b2 zl W k1 k2 (HT2.out zl rfl) : Calls Tryz.prog 114 _ W (RetQ W R)))
          have HRR := Aside0.mk (show resQ d n ((some zl).bind fun z => scS z q) = R from hR.symm)
          clear hR
          have f1_ := HS.out.c 6 1 (v := .int .i64 (n : Int)) rfl rfl
          have f2_ := HS.out.c 1 0 (v := .int .i64 (d : Int)) rfl rfl
          have f3_ := HS.out.c 1 1 (v := .int .i64 (n : Int)) rfl rfl
          have f4_ := HS.out.c 1 2 (v := .slice B yl.length b) rfl rfl
          go_wp2_with (first | (go_at_call 105; refine (HP.out B b C cs y _ (HS.out.reads 2 rfl) (HS.out.cap 2 rfl) (HS.out.reads 0 rfl) HY2.out HYL.out).mono ?_; rintro e_ w1 ⟨B2, b2, rfl, hs⟩; replace HS := sN1 HS hs; clear hs f1_ f2_ f3_ f4_) | ((with_reducible refine gate_dst (N := 11) rfl ?_); refine bxL 26 #[(.int .i64 0), (.int .i64 0), (.slice none 0 0)] HS ?_; clear HS; intro g_z w1 hg_z HS) | ((with_reducible refine gate_store (t := 26) (p := 11) rfl ?_); refine stL HS 0 0 #[.int .i64 (d : Int), .int .i64 (n : Int), .slice B2 zl.length b2] rfl rfl rfl rfl rfl ?_; clear HS; intro w1 HS))
          replace HS := sD HS
          apply region_told ((fun (A0_ : Option Addr → Nat → Option Addr → Nat → Nat → Act) (a' : Act) (w' : World) => ∃ (B3 : Option Addr) (b3 : Nat) (B4 : Option Addr) (b4 : Nat) (g_u : Nat), a' = A0_ B3 b3 B4 b4 g_u ∧ Aside0 (Mod w w' No [bx g_u 26 #[.int .i64 R.1, .int .i64 R.2.1, .slice B4 R.2.2.1.length b4], rowT B4 b4 R.2.2.1, rowT B3 b3 [], bx g_z 26 #[.int .i64 (d : Int), .int .i64 (n : Int), .slice B2 zl.length b2], rowT B2 b2 zl, rowF C cs y, bx g_y 26 #[.int .i64 (d : Int), .int .i64 (n : Int), .slice B yl.length b], rowT B b yl, bx g_bk 37 #[.int .i64 q.1, .int .i64 q.2], bx g_cc 37 #[.int .i64 e.1, .int .i64 e.2], bx g_r 26 #[(.int .i64 0), (.int .i64 0), (.slice none 0 0)], bx g_p 26 #[.int .i64 (d : Int), .int .i64 (n : Int), .slice A l.length c]])) _)
          case h1 =>
            refine ps (.t 0 (.t 2 (.t 3 (.two 1 8 (.two 4 8 (.p 5 (.p 6 (.p 7 (.e 8 (.d 9 (.p 10 .done)))))) (.e 4 (.p 5 (.p 6 (.p 7 (.d 9 (.p 10 .done))))))) (.e 1 (.e 4 (.p 5 (.p 6 (.p 7 (.d 9 (.p 10 .done))))))))))) (fun w' => w'.cell? ⟨g_p, 0, none⟩ = some (.int .i64 (d : Int)) ∧ w'.cell? ⟨g_p, 1, none⟩ = some (.int .i64 (n : Int)) ∧ w'.cell? ⟨g_p, 2, none⟩ = some (.slice A l.length c) ∧ w'.cell? ⟨g_z, 0, none⟩ = some (.int .i64 (d : Int)) ∧ w'.cell? ⟨g_z, 1, none⟩ = some (.int .i64 (n : Int)) ∧ w'.cell? ⟨g_z, 2, none⟩ = some (.slice B2 zl.length b2) ∧ w'.cell? ⟨g_bk, 0, none⟩ = some (.int .i64 q.1) ∧ w'.cell? ⟨g_bk, 1, none⟩ = some (.int .i64 q.2)) [9] ⟨HS.out.c 8 0 (v := .int .i64 (d : Int)) rfl rfl, HS.out.c 8 1 (v := .int .i64 (n : Int)) rfl rfl, HS.out.c 8 2 (v := .slice A l.length c) rfl rfl, HS.out.c 0 0 (v := .int .i64 (d : Int)) rfl rfl, HS.out.c 0 1 (v := .int .i64 (n : Int)) rfl rfl, HS.out.c 0 2 (v := .slice B2 zl.length b2) rfl rfl, HS.out.c 5 0 (v := .int .i64 q.1) rfl rfl, HS.out.c 5 1 (v := .int .i64 q.2) rfl rfl⟩ (fun hHeld => ?_)
            repeat (first | ((with_reducible refine gate_p ?_); refine rp rfl rfl ?_) | ((with_reducible refine gate_t ?_); refine rt rfl rfl hHeld ?_))
            refine run_two ?_ ?_
            · skip
              refine run_e rfl (fun K hK => ?_)
              refine gc Tryz.func89 (specEmpty d n A l.length c _) rfl rfl ?_
              rintro e_ w1 ⟨B3, b3, rfl, hs⟩
              refine ⟨_, rfl, ?_⟩
              replace HS := sN1 HS hs
              refine ge hK ⟨HS.out.c 9 0 (v := .int .i64 (d : Int)) rfl rfl, HS.out.c 9 1 (v := .int .i64 (n : Int)) rfl rfl, HS.out.c 9 2 (v := .slice A l.length c) rfl rfl, HS.out.c 1 0 (v := .int .i64 (d : Int)) rfl rfl, HS.out.c 1 1 (v := .int .i64 (n : Int)) rfl rfl, HS.out.c 1 2 (v := .slice B2 zl.length b2) rfl rfl, HS.out.c 6 0 (v := .int .i64 q.1) rfl rfl, HS.out.c 6 1 (v := .int .i64 q.2) rfl rfl⟩ (fun hHeld => ?_)
              refine run_two ?_ ?_
              · skip
                refine run_e rfl (fun K hK => ?_)
                refine gc Tryz.func114 (HAQ.out B3 b3 B2 b2 _ (HS.out.reads 0 rfl) (HS.out.reads 2 rfl)) rfl rfl ?_
                rintro e_ w1 ⟨B4, b4, rfl, hs⟩
                refine ⟨_, rfl, ?_⟩
                replace HS := sN1 HS hs
                refine ge hK ⟨HS.out.c 10 0 (v := .int .i64 (d : Int)) rfl rfl, HS.out.c 10 1 (v := .int .i64 (n : Int)) rfl rfl, HS.out.c 10 2 (v := .slice A l.length c) rfl rfl, HS.out.c 2 0 (v := .int .i64 (d : Int)) rfl rfl, HS.out.c 2 1 (v := .int .i64 (n : Int)) rfl rfl, HS.out.c 2 2 (v := .slice B2 zl.length b2) rfl rfl, HS.out.c 7 0 (v := .int .i64 q.1) rfl rfl, HS.out.c 7 1 (v := .int .i64 q.2) rfl rfl⟩ (fun hHeld => ?_)
                repeat (first | ((with_reducible refine gate_p ?_); refine rp rfl rfl ?_) | ((with_reducible refine gate_t ?_); refine rt rfl rfl hHeld ?_))
                refine run_e rfl (fun K hK => ?_)
                refine bx1 26 #[(.int .i64 0), (.int .i64 0), (.slice none 0 0)] HS ?_
                intro g_u w1 hg_u HS
                refine ge hK ⟨HS.out.c 11 0 (v := .int .i64 (d : Int)) rfl rfl, HS.out.c 11 1 (v := .int .i64 (n : Int)) rfl rfl, HS.out.c 11 2 (v := .slice A l.length c) rfl rfl, HS.out.c 3 0 (v := .int .i64 (d : Int)) rfl rfl, HS.out.c 3 1 (v := .int .i64 (n : Int)) rfl rfl, HS.out.c 3 2 (v := .slice B2 zl.length b2) rfl rfl, HS.out.c 8 0 (v := .int .i64 q.1) rfl rfl, HS.out.c 8 1 (v := .int .i64 q.2) rfl rfl⟩ (fun hHeld => ?_)
                refine run_d rfl (fun K hK => ?_)
                refine st1 HS 0 0 #[.int .i64 R.1, .int .i64 R.2.1, .slice B4 R.2.2.1.length b4] rfl rfl rfl rfl rfl ?_
                intro w1 HS
                refine goD hK rfl ?_
                repeat (first | ((with_reducible refine gate_p ?_); refine rp rfl rfl ?_) | ((with_reducible refine gate_t ?_); refine rt rfl rfl hHeld ?_))
                refine run_done ?_
                exact ⟨B3, b3, B4, b4, g_u, rfl, HS⟩
              · skip
                refine run_e rfl (fun K hK => ?_)
                refine bx1 26 #[(.int .i64 0), (.int .i64 0), (.slice none 0 0)] HS ?_
                intro g_u w1 hg_u HS
                refine ge hK ⟨HS.out.c 10 0 (v := .int .i64 (d : Int)) rfl rfl, HS.out.c 10 1 (v := .int .i64 (n : Int)) rfl rfl, HS.out.c 10 2 (v := .slice A l.length c) rfl rfl, HS.out.c 2 0 (v := .int .i64 (d : Int)) rfl rfl, HS.out.c 2 1 (v := .int .i64 (n : Int)) rfl rfl, HS.out.c 2 2 (v := .slice B2 zl.length b2) rfl rfl, HS.out.c 7 0 (v := .int .i64 q.1) rfl rfl, HS.out.c 7 1 (v := .int .i64 q.2) rfl rfl⟩ (fun hHeld => ?_)
                refine run_e rfl (fun K hK => ?_)
                refine gc Tryz.func114 (HAQ.out B3 b3 B2 b2 _ (HS.out.reads 1 rfl) (HS.out.reads 3 rfl)) rfl rfl ?_
                rintro e_ w1 ⟨B4, b4, rfl, hs⟩
                refine ⟨_, rfl, ?_⟩
                replace HS := sN1 HS hs
                refine ge hK ⟨HS.out.c 11 0 (v := .int .i64 (d : Int)) rfl rfl, HS.out.c 11 1 (v := .int .i64 (n : Int)) rfl rfl, HS.out.c 11 2 (v := .slice A l.length c) rfl rfl, HS.out.c 3 0 (v := .int .i64 (d : Int)) rfl rfl, HS.out.c 3 1 (v := .int .i64 (n : Int)) rfl rfl, HS.out.c 3 2 (v := .slice B2 zl.length b2) rfl rfl, HS.out.c 8 0 (v := .int .i64 q.1) rfl rfl, HS.out.c 8 1 (v := .int .i64 q.2) rfl rfl⟩ (fun hHeld => ?_)
                repeat (first | ((with_reducible refine gate_p ?_); refine rp rfl rfl ?_) | ((with_reducible refine gate_t ?_); refine rt rfl rfl hHeld ?_))
                refine run_d rfl (fun K hK => ?_)
                refine st1 HS 1 0 #[.int .i64 R.1, .int .i64 R.2.1, .slice B4 R.2.2.1.length b4] rfl rfl rfl rfl rfl ?_
                intro w1 HS
                refine goD hK rfl ?_
                repeat (first | ((with_reducible refine gate_p ?_); refine rp rfl rfl ?_) | ((with_reducible refine gate_t ?_); refine rt rfl rfl hHeld ?_))
                refine run_done ?_
                have n_ := HS.out.sel [1, 0, 2, 3, 4, 5, 6, 7, 8, 9, 10, 11] (by decide)
                simp only [List.filterMap_cons, List.filterMap_nil, List.getElem?_cons_zero, List.getElem?_cons_succ] at n_
                exact ⟨B3, b3, B4, b4, g_u, rfl, ⟨n_⟩⟩
            · skip
              refine run_e rfl (fun K hK => ?_)
              refine bx1 26 #[(.int .i64 0), (.int .i64 0), (.slice none 0 0)] HS ?_
              intro g_u w1 hg_u HS
              refine ge hK ⟨HS.out.c 9 0 (v := .int .i64 (d : Int)) rfl rfl, HS.out.c 9 1 (v := .int .i64 (n : Int)) rfl rfl, HS.out.c 9 2 (v := .slice A l.length c) rfl rfl, HS.out.c 1 0 (v := .int .i64 (d : Int)) rfl rfl, HS.out.c 1 1 (v := .int .i64 (n : Int)) rfl rfl, HS.out.c 1 2 (v := .slice B2 zl.length b2) rfl rfl, HS.out.c 6 0 (v := .int .i64 q.1) rfl rfl, HS.out.c 6 1 (v := .int .i64 q.2) rfl rfl⟩ (fun hHeld => ?_)
              refine run_e rfl (fun K hK => ?_)
              refine gc Tryz.func89 (specEmpty d n A l.length c _) rfl rfl ?_
              rintro e_ w1 ⟨B3, b3, rfl, hs⟩
              refine ⟨_, rfl, ?_⟩
              replace HS := sN1 HS hs
              refine ge hK ⟨HS.out.c 10 0 (v := .int .i64 (d : Int)) rfl rfl, HS.out.c 10 1 (v := .int .i64 (n : Int)) rfl rfl, HS.out.c 10 2 (v := .slice A l.length c) rfl rfl, HS.out.c 2 0 (v := .int .i64 (d : Int)) rfl rfl, HS.out.c 2 1 (v := .int .i64 (n : Int)) rfl rfl, HS.out.c 2 2 (v := .slice B2 zl.length b2) rfl rfl, HS.out.c 7 0 (v := .int .i64 q.1) rfl rfl, HS.out.c 7 1 (v := .int .i64 q.2) rfl rfl⟩ (fun hHeld => ?_)
              refine run_e rfl (fun K hK => ?_)
              refine gc Tryz.func114 (HAQ.out B3 b3 B2 b2 _ (HS.out.reads 0 rfl) (HS.out.reads 3 rfl)) rfl rfl ?_
              rintro e_ w1 ⟨B4, b4, rfl, hs⟩
              refine ⟨_, rfl, ?_⟩
              replace HS := sN1 HS hs
              refine ge hK ⟨HS.out.c 11 0 (v := .int .i64 (d : Int)) rfl rfl, HS.out.c 11 1 (v := .int .i64 (n : Int)) rfl rfl, HS.out.c 11 2 (v := .slice A l.length c) rfl rfl, HS.out.c 3 0 (v := .int .i64 (d : Int)) rfl rfl, HS.out.c 3 1 (v := .int .i64 (n : Int)) rfl rfl, HS.out.c 3 2 (v := .slice B2 zl.length b2) rfl rfl, HS.out.c 8 0 (v := .int .i64 q.1) rfl rfl, HS.out.c 8 1 (v := .int .i64 q.2) rfl rfl⟩ (fun hHeld => ?_)
              repeat (first | ((with_reducible refine gate_p ?_); refine rp rfl rfl ?_) | ((with_reducible refine gate_t ?_); refine rt rfl rfl hHeld ?_))
              refine run_d rfl (fun K hK => ?_)
              refine st1 HS 2 0 #[.int .i64 R.1, .int .i64 R.2.1, .slice B4 R.2.2.1.length b4] rfl rfl rfl rfl rfl ?_
              intro w1 HS
              refine goD hK rfl ?_
              repeat (first | ((with_reducible refine gate_p ?_); refine rp rfl rfl ?_) | ((with_reducible refine gate_t ?_); refine rt rfl rfl hHeld ?_))
              refine run_done ?_
              have n_ := HS.out.sel [2, 0, 1, 3, 4, 5, 6, 7, 8, 9, 10, 11] (by decide)
              simp only [List.filterMap_cons, List.filterMap_nil, List.getElem?_cons_zero, List.getElem?_cons_succ] at n_
              exact ⟨B3, b3, B4, b4, g_u, rfl, ⟨n_⟩⟩
          clear HS
          rintro a_ w1 ⟨B3, b3, B4, b4, g_u, rfl, HS⟩
          have f1_ := HS.out.c 0 0 (v := .int .i64 R.1) rfl rfl
          have f2_ := HS.out.c 0 1 (v := .int .i64 R.2.1) rfl rfl
          have f3_ := HS.out.c 0 2 (v := .slice B4 R.2.2.1.length b4) rfl rfl
          go_wp2_with (first | ((with_reducible refine gate_store (t := 26) (p := 2) rfl ?_); refine stL HS 10 0 #[.int .i64 R.1, .int .i64 R.2.1, .slice B4 R.2.2.1.length b4] rfl rfl rfl rfl rfl ?_; clear HS f1_ f2_ f3_; intro w1 HS))
          refine bodyPost_ret (results_cell_tmp_row rfl _ _ g_r 26 #[.int .i64 R.1, .int .i64 R.2.1, .slice B4 R.2.2.1.length b4] (0, 0) _ rfl (HS.out.at (i := 10) rfl) Tryz.underlying26 rfl (by kernel_rfl)) rfl ?_
          rw [HRR.out]
          exact ⟨B4, b4, rfl, HS.out.sel [1] (by decide)⟩
set_option maxHeartbeats 8000000 in
theorem specInverseSeries (d n : Int) (A : Option Addr) (c : Nat) (l : Ts) (w : World) (hr : KT.C w A l.length l) (hc : l.length ≤ c) (hb : bnd l = true) :
    Calls Tryz.prog 15 #[.agg #[.int .i64 d, .int .i64 n, .slice A l.length c]] w (RetS w (invR d n l)) := by
  have HR := Aside0.mk hr
  have HB := Aside0.mk hb
  have HS := Aside0.mk (Sep.refl w)
  clear hr hb
  unfold invR
  cases h : isS d n l with
  | false =>
    go_enter Tryz.func15, Tryz.ntmps15
    go_wp2_with (first | ((with_reducible refine gate_dst (N := 1) rfl ?_); refine bxL 26 #[.int .i64 d, .int .i64 n, .slice A l.length c] HS ?_; clear HS; intro g_p w1 hg_p HS) | ((with_reducible refine gate_dst (N := 2) rfl ?_); refine bxL 26 #[(.int .i64 0), (.int .i64 0), (.slice none 0 0)] HS ?_; clear HS; intro g_r w1 hg_r HS; have f1_ := HS.out.c 1 0 (v := .int .i64 d) rfl rfl; have f2_ := HS.out.c 1 1 (v := .int .i64 n) rfl rfl; have f3_ := HS.out.c 1 2 (v := .slice A l.length c) rfl rfl) | (go_at_call 42; refine (specIs d n A c l _ (HS.out.oldC HR.out) hc HB.out).mono ?_; rintro e_ w1 ⟨rfl, hb⟩; replace HS := sB HS hb; clear hb f1_ f2_ f3_) | ((with_reducible refine gate_store (t := 26) (p := 2) rfl ?_); refine stL HS 0 0 #[(.int .i64 0), (.int .i64 0), (.slice none 0 0)] rfl rfl rfl rfl rfl ?_; clear HS; intro w1 HS))
    refine bodyPost_ret (results_cell_tmp_row rfl _ _ g_r 26 #[(.int .i64 0), (.int .i64 0), (.slice none 0 0)] (0, 0) _ rfl (HS.out.at (i := 0) rfl) Tryz.underlying26 rfl (by kernel_rfl)) rfl ?_
    exact ⟨none, 0, rfl, nilS (HS.out.sel [] (by decide))⟩
  | true =>
    have HX := Aside0.mk (isS_t h)
    obtain ⟨d, n, rfl, rfl, hd1, hd3, hn1, hn5⟩ := lev_nat (isS_l h)
    rw [Int.toNat_natCast, Int.toNat_natCast] at HX ⊢
    rw [if_pos rfl]
    have HCN := Aside0.mk (fun W k1 => specConstant d n A c l W k1 hc HB.out)
    have HIQ := Aside0.mk (fun (h0 : (co l eps).1 ≠ 0) W k1 => specInvQ d n hd3 hn1 hn5 A c l W k1 hc HX.out h0)
    obtain ⟨e, he⟩ : ∃ e : Fr, e = co l eps := ⟨_, rfl⟩
    rw [← he] at HCN HIQ
    rw [← he]
    clear he
    by_cases hz : e.1 = 0
    · have hzb : (e.1 == 0) = true := by rw [hz]; rfl
      rw [if_pos hz]
      clear hz
      go_enter Tryz.func15, Tryz.ntmps15
      go_wp2_with (first | ((with_reducible refine gate_dst (N := 1) rfl ?_); refine bxL 26 #[.int .i64 (d : Int), .int .i64 (n : Int), .slice A l.length c] HS ?_; clear HS; intro g_p w1 hg_p HS) | ((with_reducible refine gate_dst (N := 2) rfl ?_); refine bxL 26 #[(.int .i64 0), (.int .i64 0), (.slice none 0 0)] HS ?_; clear HS; intro g_r w1 hg_r HS; have f1_ := HS.out.c 1 0 (v := .int .i64 (d : Int)) rfl rfl; have f2_ := HS.out.c 1 1 (v := .int .i64 (n : Int)) rfl rfl; have f3_ := HS.out.c 1 2 (v := .slice A l.length c) rfl rfl) | (go_at_call 42; refine (specIs d n A c l _ (HS.out.oldC HR.out) hc HB.out).mono ?_; rintro e_ w1 ⟨rfl, hb⟩; replace HS := sB HS hb; clear hb f1_ f2_ f3_; have f1_ := HS.out.c 1 0 (v := .int .i64 (d : Int)) rfl rfl; have f2_ := HS.out.c 1 1 (v := .int .i64 (n : Int)) rfl rfl; have f3_ := HS.out.c 1 2 (v := .slice A l.length c) rfl rfl) | (go_at_call 44; refine (HCN.out _ (HS.out.oldC HR.out)).mono ?_; rintro e_ w1 ⟨rfl, hb⟩; replace HS := sB HS hb; clear hb f1_ f2_ f3_) | (go_at_call 43; refine (specZero _ _ _).mono ?_; rintro e_ w1 ⟨rfl, hb⟩; replace HS := sB HS hb; clear hb) | ((with_reducible refine gate_store (t := 26) (p := 2) rfl ?_); refine stL HS 0 0 #[(.int .i64 0), (.int .i64 0), (.slice none 0 0)] rfl rfl rfl rfl rfl ?_; clear HS; intro w1 HS))
      refine bodyPost_ret (results_cell_tmp_row rfl _ _ g_r 26 #[(.int .i64 0), (.int .i64 0), (.slice none 0 0)] (0, 0) _ rfl (HS.out.at (i := 0) rfl) Tryz.underlying26 rfl (by kernel_rfl)) rfl ?_
      exact ⟨none, 0, rfl, nilS (HS.out.sel [] (by decide))⟩
    · have hzb : (e.1 == 0) = false := by simpa using hz
      rw [if_neg hz]
      have HP := Aside0.mk (HIQ.out hz)
      obtain ⟨o, ho⟩ : ∃ o, o = invS d n l := ⟨_, rfl⟩
      rw [← ho] at HP
      rw [← ho]
      clear ho hz HIQ
      cases o with
      | none =>
        go_enter Tryz.func15, Tryz.ntmps15
        go_wp2_with (first | ((with_reducible refine gate_dst (N := 1) rfl ?_); refine bxL 26 #[.int .i64 (d : Int), .int .i64 (n : Int), .slice A l.length c] HS ?_; clear HS; intro g_p w1 hg_p HS) | ((with_reducible refine gate_dst (N := 2) rfl ?_); refine bxL 26 #[(.int .i64 0), (.int .i64 0), (.slice none 0 0)] HS ?_; clear HS; intro g_r w1 hg_r HS; have f1_ := HS.out.c 1 0 (v := .int .i64 (d : Int)) rfl rfl; have f2_ := HS.out.c 1 1 (v := .int .i64 (n : Int)) rfl rfl; have f3_ := HS.out.c 1 2 (v := .slice A l.length c) rfl rfl) | (go_at_call 42; refine (specIs d n A c l _ (HS.out.oldC HR.out) hc HB.out).mono ?_; rintro e_ w1 ⟨rfl, hb⟩; replace HS := sB HS hb; clear hb f1_ f2_ f3_; have f1_ := HS.out.c 1 0 (v := .int .i64 (d : Int)) rfl rfl; have f2_ := HS.out.c 1 1 (v := .int .i64 (n : Int)) rfl rfl; have f3_ := HS.out.c 1 2 (v := .slice A l.length c) rfl rfl) | (go_at_call 44; refine (HCN.out _ (HS.out.oldC HR.out)).mono ?_; rintro e_ w1 ⟨rfl, hb⟩; replace HS := sB HS hb; clear hb f1_ f2_ f3_) | (go_at_call 43; refine (specZero _ _ _).mono ?_; rintro e_ w1 ⟨rfl, hb⟩; replace HS := sB HS hb; clear hb; have f1_ := HS.out.c 1 0 (v := .int .i64 (d : Int)) rfl rfl; have f2_ := HS.out.c 1 1 (v := .int .i64 (n : Int)) rfl rfl; have f3_ := HS.out.c 1 2 (v := .slice A l.length c) rfl rfl) | (go_at_call 58; refine (HP.out _ (HS.out.oldC HR.out)).mono ?_; rintro e_ w1 ⟨B, b, rfl, hs⟩; replace HS := sN1 HS hs; clear hs f1_ f2_ f3_) | ((with_reducible refine gate_dst (N := 4) rfl ?_); refine bxL 26 #[(.int .i64 0), (.int .i64 0), (.slice none 0 0)] HS ?_; clear HS; intro g_y w1 hg_y HS) | ((with_reducible refine gate_store (t := 26) (p := 4) rfl ?_); refine stL HS 0 0 #[.int .i64 0, .int .i64 0, .slice B ([] : Ts).length b] rfl rfl rfl rfl rfl ?_; clear HS; intro w1 HS) | ((with_reducible refine gate_store (t := 26) (p := 2) rfl ?_); refine stL HS 2 0 #[(.int .i64 0), (.int .i64 0), (.slice none 0 0)] rfl rfl rfl rfl rfl ?_; clear HS; intro w1 HS))
        refine bodyPost_ret (results_cell_tmp_row rfl _ _ g_r 26 #[(.int .i64 0), (.int .i64 0), (.slice none 0 0)] (0, 0) _ rfl (HS.out.at (i := 2) rfl) Tryz.underlying26 rfl (by kernel_rfl)) rfl ?_
        exact ⟨none, 0, rfl, nilS (HS.out.sel [] (by decide))⟩
      | some z =>
        go_enter Tryz.func15, Tryz.ntmps15
        go_wp2_with (first | ((with_reducible refine gate_dst (N := 1) rfl ?_); refine bxL 26 #[.int .i64 (d : Int), .int .i64 (n : Int), .slice A l.length c] HS ?_; clear HS; intro g_p w1 hg_p HS) | ((with_reducible refine gate_dst (N := 2) rfl ?_); refine bxL 26 #[(.int .i64 0), (.int .i64 0), (.slice none 0 0)] HS ?_; clear HS; intro g_r w1 hg_r HS; have f1_ := HS.out.c 1 0 (v := .int .i64 (d : Int)) rfl rfl; have f2_ := HS.out.c 1 1 (v := .int .i64 (n : Int)) rfl rfl; have f3_ := HS.out.c 1 2 (v := .slice A l.length c) rfl rfl) | (go_at_call 42; refine (specIs d n A c l _ (HS.out.oldC HR.out) hc HB.out).mono ?_; rintro e_ w1 ⟨rfl, hb⟩; replace HS := sB HS hb; clear hb f1_ f2_ f3_; have f1_ := HS.out.c 1 0 (v := .int .i64 (d : Int)) rfl rfl; have f2_ := HS.out.c 1 1 (v := .int .i64 (n : Int)) rfl rfl; have f3_ := HS.out.c 1 2 (v := .slice A l.length c) rfl rfl) | (go_at_call 44; refine (HCN.out _ (HS.out.oldC HR.out)).mono ?_; rintro e_ w1 ⟨rfl, hb⟩; replace HS := sB HS hb; clear hb f1_ f2_ f3_) | (go_at_call 43; refine (specZero _ _ _).mono ?_; rintro e_ w1 ⟨rfl, hb⟩; replace HS := sB HS hb; clear hb; have f1_ := HS.out.c 1 0 (v := .int .i64 (d : Int)) rfl rfl; have f2_ := HS.out.c 1 1 (v := .int .i64 (n : Int)) rfl rfl; have f3_ := HS.out.c 1 2 (v := .slice A l.length c) rfl rfl) | (go_at_call 58; refine (HP.out _ (HS.out.oldC HR.out)).mono ?_; rintro e_ w1 ⟨B, b, rfl, hs⟩; replace HS := sN1 HS hs; clear hs f1_ f2_ f3_) | ((with_reducible refine gate_dst (N := 4) rfl ?_); refine bxL 26 #[(.int .i64 0), (.int .i64 0), (.slice none 0 0)] HS ?_; clear HS; intro g_y w1 hg_y HS) | ((with_reducible refine gate_store (t := 26) (p := 4) rfl ?_); refine stL HS 0 0 #[.int .i64 (d : Int), .int .i64 (n : Int), .slice B z.length b] rfl rfl rfl rfl rfl ?_; clear HS; intro w1 HS; have f1_ := HS.out.c 0 0 (v := .int .i64 (d : Int)) rfl rfl; have f2_ := HS.out.c 0 1 (v := .int .i64 (n : Int)) rfl rfl; have f3_ := HS.out.c 0 2 (v := .slice B z.length b) rfl rfl) | ((with_reducible refine gate_store (t := 26) (p := 2) rfl ?_); refine stL HS 2 0 #[.int .i64 (d : Int), .int .i64 (n : Int), .slice B z.length b] rfl rfl rfl rfl rfl ?_; clear HS f1_ f2_ f3_; intro w1 HS))
        refine bodyPost_ret (results_cell_tmp_row rfl _ _ g_r 26 #[.int .i64 (d : Int), .int .i64 (n : Int), .slice B z.length b] (0, 0) _ rfl (HS.out.at (i := 2) rfl) Tryz.underlying26 rfl (by kernel_rfl)) rfl ?_
        exact ⟨B, b, rfl, HS.out.sel [1] (by decide)⟩
set_option maxHeartbeats 8000000 in
theorem implInverseSeries (d n : Int) (A : Option Addr) (c : Nat) (l : Ts) (w : World) (hr : KT.C w A l.length l) (hc : l.length ≤ c) (hb : bnd l = true) :
    Calls Tryz.prog 14 #[.agg #[.int .i64 d, .int .i64 n, .slice A l.length c]] w (RetS w (invR d n l)) := by
  have HR := Aside0.mk hr
  have HB := Aside0.mk hb
  have HS := Aside0.mk (Sep.refl w)
  clear hr hb
  unfold invR
  cases h : isS d n l with
  | false =>
    go_enter Tryz.func14, Tryz.ntmps14
    go_wp2_with (first | ((with_reducible refine gate_dst (N := 1) rfl ?_); refine bxL 26 #[.int .i64 d, .int .i64 n, .slice A l.length c] HS ?_; clear HS; intro g_p w1 hg_p HS) | ((with_reducible refine gate_dst (N := 2) rfl ?_); refine bxL 26 #[(.int .i64 0), (.int .i64 0), (.slice none 0 0)] HS ?_; clear HS; intro g_r w1 hg_r HS; have f1_ := HS.out.c 1 0 (v := .int .i64 d) rfl rfl; have f2_ := HS.out.c 1 1 (v := .int .i64 n) rfl rfl; have f3_ := HS.out.c 1 2 (v := .slice A l.length c) rfl rfl) | (go_at_call 38; refine (implIs d n A c l _ (HS.out.oldC HR.out) hc HB.out).mono ?_; rintro e_ w1 ⟨rfl, hb⟩; replace HS := sB HS hb; clear hb f1_ f2_ f3_) | ((with_reducible refine gate_store (t := 26) (p := 2) rfl ?_); refine stL HS 0 0 #[(.int .i64 0), (.int .i64 0), (.slice none 0 0)] rfl rfl rfl rfl rfl ?_; clear HS; intro w1 HS))
    refine bodyPost_ret (results_cell_tmp_row rfl _ _ g_r 26 #[(.int .i64 0), (.int .i64 0), (.slice none 0 0)] (0, 0) _ rfl (HS.out.at (i := 0) rfl) Tryz.underlying26 rfl (by kernel_rfl)) rfl ?_
    exact ⟨none, 0, rfl, nilS (HS.out.sel [] (by decide))⟩
  | true =>
    have HX := Aside0.mk (isS_t h)
    have hlev := isS_l h
    obtain ⟨d, n, rfl, rfl, hd1, hd3, hn1, hn5⟩ := lev_nat hlev
    have HL := Aside0.mk hlev
    clear hlev
    rw [Int.toNat_natCast, Int.toNat_natCast] at HX ⊢
    rw [if_pos rfl]
    have hN0 : 0 < nW d n := num_lt' (s := eps) (by rfl) (Nat.zero_le _)
    have HOP := Aside0.mk (fun W k1 => implOpen d n A c l W HL.out k1 HX.out)
    have HSC := Aside0.mk (fun g v (q : Fr) (hq : fr q = true) W k1 k2 => tabScaled (w := W) (g := g) (v := v) (F := (co l, false)) HL.out ⟨good_co HX.out, rel_self HX.out, k1, k2⟩ hq)
    obtain ⟨N, hN⟩ : ∃ N, N = nW d n := ⟨_, rfl⟩
    rw [← hN] at hN0 HOP HSC
    clear hN
    have hfe := co_fr HX.out eps
    unfold invS
    obtain ⟨e, he⟩ : ∃ e : Fr, e = co l eps := ⟨_, rfl⟩
    have HE := Aside0.mk he.symm
    rw [← he] at hfe
    rw [← he]
    clear he
    by_cases hz : e.1 = 0
    · have hzb : (e.1 == 0) = true := by rw [hz]; rfl
      rw [if_pos hz]
      clear hz
      go_enter Tryz.func14, Tryz.ntmps14
      go_wp2_with (first | ((with_reducible refine gate_dst (N := 1) rfl ?_); refine bxL 26 #[.int .i64 (d : Int), .int .i64 (n : Int), .slice A l.length c] HS ?_; clear HS; intro g_p w1 hg_p HS) | ((with_reducible refine gate_dst (N := 2) rfl ?_); refine bxL 26 #[(.int .i64 0), (.int .i64 0), (.slice none 0 0)] HS ?_; clear HS; intro g_r w1 hg_r HS; have f1_ := HS.out.c 1 0 (v := .int .i64 (d : Int)) rfl rfl; have f2_ := HS.out.c 1 1 (v := .int .i64 (n : Int)) rfl rfl; have f3_ := HS.out.c 1 2 (v := .slice A l.length c) rfl rfl) | (go_at_call 38; refine (implIs d n A c l _ (HS.out.oldC HR.out) hc HB.out).mono ?_; rintro e_ w1 ⟨rfl, hb⟩; replace HS := sB HS hb; clear hb f1_ f2_ f3_; have f1_ := HS.out.c 1 0 (v := .int .i64 (d : Int)) rfl rfl; have f2_ := HS.out.c 1 1 (v := .int .i64 (n : Int)) rfl rfl; have f3_ := HS.out.c 1 2 (v := .slice A l.length c) rfl rfl) | (go_at_call 39; refine (HOP.out _ (HS.out.oldC HR.out)).mono ?_; rintro e_ w1 ⟨g, v, rfl, hs⟩; replace HS := sN2 HS hs; clear hs f1_ f2_ f3_; have f1_ := HS.out.c 0 2 (v := .slice (some ⟨v, 0, none⟩) N N) rfl rfl; have f2_ := ((tab_at0 (HS.out.at (i := 1) rfl)).1.trans (by rw [HE.out])); have f3_ := ((tab_at0 (HS.out.at (i := 1) rfl)).2.trans (by rw [HE.out]))) | ((with_reducible refine gate_dst (N := 5) rfl ?_); refine bxL 37 #[(.int .i64 0), (.int .i64 0)] HS ?_; clear HS f1_ f2_ f3_; intro g_cc w1 hg_cc HS) | ((with_reducible refine gate_store (t := 37) (p := 5) rfl ?_); refine stL HS 0 0 #[.int .i64 e.1, .int .i64 e.2] rfl rfl rfl rfl rfl ?_; clear HS; intro w1 HS; have f1_ := HS.out.c 0 0 (v := .int .i64 e.1) rfl rfl) | ((with_reducible refine gate_store (t := 26) (p := 2) rfl ?_); refine stL HS 3 0 #[(.int .i64 0), (.int .i64 0), (.slice none 0 0)] rfl rfl rfl rfl rfl ?_; clear HS f1_; intro w1 HS))
      refine bodyPost_ret (results_cell_tmp_row rfl _ _ g_r 26 #[(.int .i64 0), (.int .i64 0), (.slice none 0 0)] (0, 0) _ rfl (HS.out.at (i := 3) rfl) Tryz.underlying26 rfl (by kernel_rfl)) rfl ?_
      exact ⟨none, 0, rfl, nilS (HS.out.sel [] (by decide))⟩
    · have hzb : (e.1 == 0) = false := by simpa using hz
      rw [if_neg hz]
      have hqf := Aside0.mk (over_div hfe hz).2
      obtain ⟨r1, r2, r3⟩ := over_red hfe hz
      have hsm := fr_small hfe
      unfold small at hsm
      have HRD := Aside0.mk (fun W => (by have h := implReduced e.2 e.1 W hz (by omega) (by omega) (by omega) (by omega); rw [r1, r2, r3] at h; exact h : Calls Tryz.prog 52 #[.int .i64 e.2, .int .i64 e.1] W fun x w' => x = .returned (.tuple #[.agg #[.int .i64 (overF e).1, .int .i64 (overF e).2], .bool true]) ∧ Below W.heap.size W w'))
      obtain ⟨q, hq⟩ : ∃ q, q = overF e := ⟨_, rfl⟩
      rw [← hq] at HRD hqf
      rw [← hq]
      clear hq hz r1 r2 r3 hsm hfe
      go_enter Tryz.func14, Tryz.ntmps14
      go_wp2_with (first | ((with_reducible refine gate_dst (N := 1) rfl ?_); refine bxL 26 #[.int .i64 (d : Int), .int .i64 (n : Int), .slice A l.length c] HS ?_; clear HS; intro g_p w1 hg_p HS) | ((with_reducible refine gate_dst (N := 2) rfl ?_); refine bxL 26 #[(.int .i64 0), (.int .i64 0), (.slice none 0 0)] HS ?_; clear HS; intro g_r w1 hg_r HS; have f1_ := HS.out.c 1 0 (v := .int .i64 (d : Int)) rfl rfl; have f2_ := HS.out.c 1 1 (v := .int .i64 (n : Int)) rfl rfl; have f3_ := HS.out.c 1 2 (v := .slice A l.length c) rfl rfl) | (go_at_call 38; refine (implIs d n A c l _ (HS.out.oldC HR.out) hc HB.out).mono ?_; rintro e_ w1 ⟨rfl, hb⟩; replace HS := sB HS hb; clear hb f1_ f2_ f3_; have f1_ := HS.out.c 1 0 (v := .int .i64 (d : Int)) rfl rfl; have f2_ := HS.out.c 1 1 (v := .int .i64 (n : Int)) rfl rfl; have f3_ := HS.out.c 1 2 (v := .slice A l.length c) rfl rfl) | (go_at_call 39; refine (HOP.out _ (HS.out.oldC HR.out)).mono ?_; rintro e_ w1 ⟨g, v, rfl, hs⟩; replace HS := sN2 HS hs; clear hs f1_ f2_ f3_; have f1_ := HS.out.c 0 2 (v := .slice (some ⟨v, 0, none⟩) N N) rfl rfl; have f2_ := ((tab_at0 (HS.out.at (i := 1) rfl)).1.trans (by rw [HE.out])); have f3_ := ((tab_at0 (HS.out.at (i := 1) rfl)).2.trans (by rw [HE.out]))) | ((with_reducible refine gate_dst (N := 5) rfl ?_); refine bxL 37 #[(.int .i64 0), (.int .i64 0)] HS ?_; clear HS f1_ f2_ f3_; intro g_cc w1 hg_cc HS) | ((with_reducible refine gate_store (t := 37) (p := 5) rfl ?_); refine stL HS 0 0 #[.int .i64 e.1, .int .i64 e.2] rfl rfl rfl rfl rfl ?_; clear HS; intro w1 HS; have f1_ := HS.out.c 0 0 (v := .int .i64 e.1) rfl rfl; have f2_ := HS.out.c 0 1 (v := .int .i64 e.2) rfl rfl) | (go_at_call 52; refine (HRD.out _).mono ?_; rintro e_ w1 ⟨rfl, hb⟩; replace HS := sB HS hb; clear hb f1_ f2_) | ((with_reducible refine gate_dst (N := 6) rfl ?_); refine bxL 37 #[(.int .i64 0), (.int .i64 0)] HS ?_; clear HS; intro g_bk w1 hg_bk HS) | ((with_reducible refine gate_store (t := 37) (p := 6) rfl ?_); refine stL HS 0 0 #[.int .i64 q.1, .int .i64 q.2] rfl rfl rfl rfl rfl ?_; clear HS; intro w1 HS; have f1_ := HS.out.c 0 0 (v := .int .i64 q.1) rfl rfl; have f2_ := HS.out.c 0 1 (v := .int .i64 q.2) rfl rfl) | (go_at_call 53; refine (HSC.out g v q hqf.out _ (HS.out.at (i := 2) rfl) (HS.out.at (i := 3) rfl)).mono ?_; rintro e_ w1 ⟨g3, v3, F3, rfl, hF, hQ, hs⟩; replace HS := sN2 HS hs; clear hs f1_ f2_; have HF3 := Aside0.mk hF; have HQ3 := Aside0.mk hQ; clear hF hQ) | (go_at_call 54; refine (tabLess HL.out ⟨HF3.out, HQ3.out, HS.out.at (i := 0) rfl, HS.out.at (i := 1) rfl⟩).mono ?_; rintro e_ w1 ⟨g4, v4, F4, rfl, hF, hQ, hs⟩; replace HS := sN2 HS hs; clear hs; have HF4 := Aside0.mk hF; have HQ4 := Aside0.mk hQ; clear hF hQ))
      replace HS := sD HS
      refine ps (.p 0 (.t 2 (.e 1 (.d 3 (.d 4 (.p 5 (.p 6 (.d 7 (.p 8 .done))))))))) (fun w' => w'.cell? ⟨g_bk, 0, none⟩ = some (.int .i64 q.1) ∧ w'.cell? ⟨g_bk, 1, none⟩ = some (.int .i64 q.2)) [3, 4, 7] ⟨HS.out.c 4 0 (v := .int .i64 q.1) rfl rfl, HS.out.c 4 1 (v := .int .i64 q.2) rfl rfl⟩ (fun hHeld => ?_)
      repeat (first | ((with_reducible refine gate_p ?_); refine rp rfl rfl ?_) | ((with_reducible refine gate_t ?_); refine rt rfl rfl hHeld ?_))
      refine run_e rfl (fun K hK => ?_)
      refine gc Tryz.func55 (tabPowers_inv HL.out ⟨HF4.out, HQ4.out, HS.out.at (i := 0) rfl, HS.out.at (i := 1) rfl⟩) rfl rfl ?_
      rintro e_ w1 ⟨g5, v5, F5, rfl, hF, hQ, hs⟩
      refine ⟨_, rfl, ?_⟩
      replace HS := sN2 HS hs
      clear hs
      have HF5 := Aside0.mk hF; have HQ5 := Aside0.mk hQ; clear hF hQ
      refine ge hK ⟨HS.out.c 6 0 (v := .int .i64 q.1) rfl rfl, HS.out.c 6 1 (v := .int .i64 q.2) rfl rfl⟩ (fun hHeld => ?_)
      clear hK K
      refine run_d rfl (fun K hK => ?_)
      refine gc Tryz.func53 (tabScaled HL.out ⟨HF5.out, HQ5.out, HS.out.at (i := 0) rfl, HS.out.at (i := 1) rfl⟩ hqf.out) rfl rfl ?_
      rintro e_ w1 ⟨g6, v6, F6, rfl, hF, hQ, hs⟩
      refine ⟨_, rfl, ?_⟩
      replace HS := sN2 HS hs
      clear hs
      have HF6 := Aside0.mk hF; have HQ6 := Aside0.mk hQ; clear hF hQ
      refine gd hK ?_
      clear hK K
      refine run_d rfl (fun K hK => ?_)
      refine gc Tryz.func41 (tabTold HL.out ⟨HF6.out, HQ6.out, HS.out.at (i := 0) rfl, HS.out.at (i := 1) rfl⟩) rfl rfl ?_
      rintro e_ w1 ⟨B, b, rfl, hs⟩
      refine ⟨_, rfl, ?_⟩
      replace HS := sN1 HS hs
      clear hs
      refine gd hK ?_
      clear hK K
      repeat (first | ((with_reducible refine gate_p ?_); refine rp rfl rfl ?_) | ((with_reducible refine gate_t ?_); refine rt rfl rfl hHeld ?_))
      refine run_d rfl (fun K hK => ?_)
      refine st1 HS 13 0 #[.int .i64 (resO d n ((outO d n ((scS l q).bind lessS) invC (n + 1)).bind fun z => scS z q)).1, .int .i64 (resO d n ((outO d n ((scS l q).bind lessS) invC (n + 1)).bind fun z => scS z q)).2.1, .slice B (resO d n ((outO d n ((scS l q).bind lessS) invC (n + 1)).bind fun z => scS z q)).2.2.1.length b] rfl rfl rfl rfl rfl ?_
      clear HS
      intro w1 HS
      refine goD hK rfl ?_
      clear hK K
      repeat (first | ((with_reducible refine gate_p ?_); refine rp rfl rfl ?_) | ((with_reducible refine gate_t ?_); refine rt rfl rfl hHeld ?_))
      refine run_done ?_
      clear hHeld
      go_wp2
      refine bodyPost_ret (results_cell_tmp_row rfl _ _ g_r 26 #[.int .i64 (resO d n ((outO d n ((scS l q).bind lessS) invC (n + 1)).bind fun z => scS z q)).1, .int .i64 (resO d n ((outO d n ((scS l q).bind lessS) invC (n + 1)).bind fun z => scS z q)).2.1, .slice B (resO d n ((outO d n ((scS l q).bind lessS) invC (n + 1)).bind fun z => scS z q)).2.2.1.length b] (0, 0) _ rfl (HS.out.at (i := 13) rfl) Tryz.underlying26 rfl (by kernel_rfl)) rfl ?_
      exact ⟨B, b, rfl, HS.out.sel [0] (by decide)⟩
end Go.Proofs.YtibjkjhpfmmjoaaGreat.H



namespace Go.Proofs.YtibjkjhpfmmjoaaGreat.M
def codeR (d n : Int) (l : Ts) (d2 n2 : Int) (l2 : Ts) : Int := if isS d n l = true then if isS d2 n2 l2 = true then if d = d2 ∧ n = n2 then 0 else 2 else 1 else 1
theorem codeR_1 {d n : Int} {l : Ts} {d2 n2 : Int} {l2 : Ts} (h : isS d n l = false) : codeR d n l d2 n2 l2 = 1 := by unfold codeR; rw [if_neg (by rw [h]; decide)]
theorem codeR_2 {d n : Int} {l : Ts} {d2 n2 : Int} {l2 : Ts} (h : isS d n l = true) (h2 : isS d2 n2 l2 = false) : codeR d n l d2 n2 l2 = 1 := by unfold codeR; rw [if_pos h, if_neg (by rw [h2]; decide)]
theorem codeR_3 {d n : Int} {l : Ts} {d2 n2 : Int} {l2 : Ts} (h : isS d n l = true) (h2 : isS d2 n2 l2 = true) (h3 : decide (d = d2 ∧ n = n2) = false) : codeR d n l d2 n2 l2 = 2 := by unfold codeR; rw [if_pos h, if_pos h2, if_neg (of_decide_eq_false h3)]
theorem codeR_4 {d n : Int} {l : Ts} {d2 n2 : Int} {l2 : Ts} (h : isS d n l = true) (h2 : isS d2 n2 l2 = true) (h3 : decide (d = d2 ∧ n = n2) = true) : codeR d n l d2 n2 l2 = 0 := by unfold codeR; rw [if_pos h, if_pos h2, if_pos (of_decide_eq_true h3)]
theorem codeR_zero {d n : Int} {l : Ts} {d2 n2 : Int} {l2 : Ts} (h : codeR d n l d2 n2 l2 = 0) : isS d n l = true ∧ isS d2 n2 l2 = true ∧ d = d2 ∧ n = n2 := by
  unfold codeR at h
  split at h
  · rename_i h1
    split at h
    · rename_i h2
      split at h
      · rename_i h3; exact ⟨h1, h2, h3.1, h3.2⟩
      · cases h
    · cases h
  · cases h
end Go.Proofs.YtibjkjhpfmmjoaaGreat.M
namespace Go.Proofs.YtibjkjhpfmmjoaaGreat.H
open Go.RowKit Go.Proofs.YtibjkjhpfmmjoaaGreatW.PrintWords Go.Proofs.YtibjkjhpfmmjoaaGreatW.PrintLast Go.Proofs.YtibjkjhpfmmjoaaGreatW.PrintMore Go.Proofs.YtibjkjhpfmmjoaaGreat.M
attribute [local go_sem] max2_int min2_int max_two min_two max_three min_three max_four min_four
set_option linter.unusedVariables false
set_option linter.unusedSimpArgs false
set_option maxRecDepth 100000
theorem implAlike (d n d2 n2 : Int) (A A2 : Option Addr) (m c m2 c2 : Nat) (w : World) : Calls Tryz.prog 115 #[.agg #[.int .i64 d, .int .i64 n, .slice A m c], .agg #[.int .i64 d2, .int .i64 n2, .slice A2 m2 c2]] w fun e w' => e = .returned (.bool (decide (d = d2 ∧ n = n2))) ∧ Below w.heap.size w w' := by
  have HS := Aside0.mk (Sep.refl w)
  by_cases h1 : d = d2
  · subst h1
    have hb : (d == d) = true := by simp
    by_cases h2 : n = n2
    · subst h2
      have hb2 : (n == n) = true := by simp
      go_enter Tryz.func115, Tryz.ntmps115
      go_wp2_with (first | ((with_reducible refine gate_dst (N := 2) rfl ?_); refine bxL 26 #[.int .i64 d, .int .i64 n, .slice A m c] HS ?_; clear HS; intro g_x w1 hg_x HS) | ((with_reducible refine gate_dst (N := 3) rfl ?_); refine bxL 26 #[.int .i64 d, .int .i64 n, .slice A2 m2 c2] HS ?_; clear HS; intro g_y w1 hg_y HS; have f1_ := HS.out.c 1 0 (v := .int .i64 d) rfl rfl; have f2_ := HS.out.c 0 0 (v := .int .i64 d) rfl rfl; have f3_ := HS.out.c 1 1 (v := .int .i64 n) rfl rfl; have f4_ := HS.out.c 0 1 (v := .int .i64 n) rfl rfl))
      go_ret
      exact ⟨ret_bool (by simp), HS.out.below⟩
    · have hb2 : (n == n2) = false := by simpa using h2
      go_enter Tryz.func115, Tryz.ntmps115
      go_wp2_with (first | ((with_reducible refine gate_dst (N := 2) rfl ?_); refine bxL 26 #[.int .i64 d, .int .i64 n, .slice A m c] HS ?_; clear HS; intro g_x w1 hg_x HS) | ((with_reducible refine gate_dst (N := 3) rfl ?_); refine bxL 26 #[.int .i64 d, .int .i64 n2, .slice A2 m2 c2] HS ?_; clear HS; intro g_y w1 hg_y HS; have f1_ := HS.out.c 1 0 (v := .int .i64 d) rfl rfl; have f2_ := HS.out.c 0 0 (v := .int .i64 d) rfl rfl; have f3_ := HS.out.c 1 1 (v := .int .i64 n) rfl rfl; have f4_ := HS.out.c 0 1 (v := .int .i64 n2) rfl rfl))
      go_ret
      exact ⟨ret_bool (by simp [h2]), HS.out.below⟩
  · have hb : (d == d2) = false := by simpa using h1
    go_enter Tryz.func115, Tryz.ntmps115
    go_wp2_with (first | ((with_reducible refine gate_dst (N := 2) rfl ?_); refine bxL 26 #[.int .i64 d, .int .i64 n, .slice A m c] HS ?_; clear HS; intro g_x w1 hg_x HS) | ((with_reducible refine gate_dst (N := 3) rfl ?_); refine bxL 26 #[.int .i64 d2, .int .i64 n2, .slice A2 m2 c2] HS ?_; clear HS; intro g_y w1 hg_y HS; have f1_ := HS.out.c 1 0 (v := .int .i64 d) rfl rfl; have f2_ := HS.out.c 0 0 (v := .int .i64 d2) rfl rfl))
    go_ret
    exact ⟨ret_bool (by simp [h1]), HS.out.below⟩
set_option maxHeartbeats 8000000 in
theorem implCode (d n : Int) (A : Option Addr) (c : Nat) (l : Ts) (d2 n2 : Int) (A2 : Option Addr) (c2 : Nat) (l2 : Ts) (w : World) (hr : KT.C w A l.length l) (hc : l.length ≤ c) (hb : bnd l = true) (hr2 : KT.C w A2 l2.length l2) (hc2 : l2.length ≤ c2) (hb2 : bnd l2 = true) :
    Calls Tryz.prog 59 #[.agg #[.int .i64 d, .int .i64 n, .slice A l.length c], .agg #[.int .i64 d2, .int .i64 n2, .slice A2 l2.length c2]] w fun e w' => e = .returned (.int .i64 (codeR d n l d2 n2 l2)) ∧ Below w.heap.size w w' := by
  have HR := Aside0.mk hr
  have HB := Aside0.mk hb
  have HR2 := Aside0.mk hr2
  have HB2 := Aside0.mk hb2
  have HS := Aside0.mk (Sep.refl w)
  clear hr hb hr2 hb2
  cases h : isS d n l with
  | false =>
    rw [codeR_1 h]
    go_enter Tryz.func59, Tryz.ntmps59
    go_wp2_with (first | ((with_reducible refine gate_dst (N := 2) rfl ?_); refine bxL 26 #[.int .i64 d, .int .i64 n, .slice A l.length c] HS ?_; clear HS; intro g_x w1 hg_x HS) | ((with_reducible refine gate_dst (N := 3) rfl ?_); refine bxL 26 #[.int .i64 d2, .int .i64 n2, .slice A2 l2.length c2] HS ?_; clear HS; intro g_y w1 hg_y HS; have f1_ := HS.out.c 1 0 (v := .int .i64 d) rfl rfl; have f2_ := HS.out.c 1 1 (v := .int .i64 n) rfl rfl; have f3_ := HS.out.c 1 2 (v := .slice A l.length c) rfl rfl) | (go_at_call 38; refine (implIs d n A c l _ (HS.out.oldC HR.out) hc HB.out).mono ?_; rintro e_ w1 ⟨rfl, hb⟩; replace HS := sB HS hb; clear hb f1_ f2_ f3_))
    go_ret
    exact ⟨rfl, HS.out.below⟩
  | true =>
    cases h2 : isS d2 n2 l2 with
    | false =>
      rw [codeR_2 h h2]
      go_enter Tryz.func59, Tryz.ntmps59
      have tk1_ : True := trivial
      go_wp2_with (first | ((with_reducible refine gate_dst (N := 2) rfl ?_); refine bxL 26 #[.int .i64 d, .int .i64 n, .slice A l.length c] HS ?_; clear HS; intro g_x w1 hg_x HS) | ((with_reducible refine gate_dst (N := 3) rfl ?_); refine bxL 26 #[.int .i64 d2, .int .i64 n2, .slice A2 l2.length c2] HS ?_; clear HS; intro g_y w1 hg_y HS; have f1_ := HS.out.c 1 0 (v := .int .i64 d) rfl rfl; have f2_ := HS.out.c 1 1 (v := .int .i64 n) rfl rfl; have f3_ := HS.out.c 1 2 (v := .slice A l.length c) rfl rfl) | (go_at_call 38; clear tk1_; refine (implIs d n A c l _ (HS.out.oldC HR.out) hc HB.out).mono ?_; rintro e_ w1 ⟨rfl, hb⟩; replace HS := sB HS hb; clear hb f1_ f2_ f3_; have f1_ := HS.out.c 0 0 (v := .int .i64 d2) rfl rfl; have f2_ := HS.out.c 0 1 (v := .int .i64 n2) rfl rfl; have f3_ := HS.out.c 0 2 (v := .slice A2 l2.length c2) rfl rfl) | (go_at_call 38; refine (implIs d2 n2 A2 c2 l2 _ (HS.out.oldC HR2.out) hc2 HB2.out).mono ?_; rintro e_ w1 ⟨rfl, hb⟩; replace HS := sB HS hb; clear hb f1_ f2_ f3_))
      go_ret
      exact ⟨rfl, HS.out.below⟩
    | true =>
      have HC := Aside0.mk (fun W => implAlike d n d2 n2 A A2 l.length c l2.length c2 W)
      cases h3 : decide (d = d2 ∧ n = n2) with
      | false =>
        rw [codeR_3 h h2 h3]
        rw [h3] at HC
        clear h3
        go_enter Tryz.func59, Tryz.ntmps59
        have tk2_ : True := trivial
        go_wp2_with (first | ((with_reducible refine gate_dst (N := 2) rfl ?_); refine bxL 26 #[.int .i64 d, .int .i64 n, .slice A l.length c] HS ?_; clear HS; intro g_x w1 hg_x HS) | ((with_reducible refine gate_dst (N := 3) rfl ?_); refine bxL 26 #[.int .i64 d2, .int .i64 n2, .slice A2 l2.length c2] HS ?_; clear HS; intro g_y w1 hg_y HS; have f1_ := HS.out.c 1 0 (v := .int .i64 d) rfl rfl; have f2_ := HS.out.c 1 1 (v := .int .i64 n) rfl rfl; have f3_ := HS.out.c 1 2 (v := .slice A l.length c) rfl rfl) | (go_at_call 38; clear tk2_; refine (implIs d n A c l _ (HS.out.oldC HR.out) hc HB.out).mono ?_; rintro e_ w1 ⟨rfl, hb⟩; replace HS := sB HS hb; clear hb f1_ f2_ f3_; have f1_ := HS.out.c 0 0 (v := .int .i64 d2) rfl rfl; have f2_ := HS.out.c 0 1 (v := .int .i64 n2) rfl rfl; have f3_ := HS.out.c 0 2 (v := .slice A2 l2.length c2) rfl rfl) | (go_at_call 38; refine (implIs d2 n2 A2 c2 l2 _ (HS.out.oldC HR2.out) hc2 HB2.out).mono ?_; rintro e_ w1 ⟨rfl, hb⟩; replace HS := sB HS hb; clear hb f1_ f2_ f3_; have f1_ := HS.out.c 1 0 (v := .int .i64 d) rfl rfl; have f2_ := HS.out.c 1 1 (v := .int .i64 n) rfl rfl; have f3_ := HS.out.c 1 2 (v := .slice A l.length c) rfl rfl; have f4_ := HS.out.c 0 0 (v := .int .i64 d2) rfl rfl; have f5_ := HS.out.c 0 1 (v := .int .i64 n2) rfl rfl; have f6_ := HS.out.c 0 2 (v := .slice A2 l2.length c2) rfl rfl) | (go_at_call 115; refine (HC.out _).mono ?_; rintro e_ w1 ⟨rfl, hb⟩; replace HS := sB HS hb; clear hb f1_ f2_ f3_ f4_ f5_ f6_))
        go_ret
        exact ⟨rfl, HS.out.below⟩
      | true =>
        rw [codeR_4 h h2 h3]
        rw [h3] at HC
        clear h3
        go_enter Tryz.func59, Tryz.ntmps59
        have tk3_ : True := trivial
        go_wp2_with (first | ((with_reducible refine gate_dst (N := 2) rfl ?_); refine bxL 26 #[.int .i64 d, .int .i64 n, .slice A l.length c] HS ?_; clear HS; intro g_x w1 hg_x HS) | ((with_reducible refine gate_dst (N := 3) rfl ?_); refine bxL 26 #[.int .i64 d2, .int .i64 n2, .slice A2 l2.length c2] HS ?_; clear HS; intro g_y w1 hg_y HS; have f1_ := HS.out.c 1 0 (v := .int .i64 d) rfl rfl; have f2_ := HS.out.c 1 1 (v := .int .i64 n) rfl rfl; have f3_ := HS.out.c 1 2 (v := .slice A l.length c) rfl rfl) | (go_at_call 38; clear tk3_; refine (implIs d n A c l _ (HS.out.oldC HR.out) hc HB.out).mono ?_; rintro e_ w1 ⟨rfl, hb⟩; replace HS := sB HS hb; clear hb f1_ f2_ f3_; have f1_ := HS.out.c 0 0 (v := .int .i64 d2) rfl rfl; have f2_ := HS.out.c 0 1 (v := .int .i64 n2) rfl rfl; have f3_ := HS.out.c 0 2 (v := .slice A2 l2.length c2) rfl rfl) | (go_at_call 38; refine (implIs d2 n2 A2 c2 l2 _ (HS.out.oldC HR2.out) hc2 HB2.out).mono ?_; rintro e_ w1 ⟨rfl, hb⟩; replace HS := sB HS hb; clear hb f1_ f2_ f3_; have f1_ := HS.out.c 1 0 (v := .int .i64 d) rfl rfl; have f2_ := HS.out.c 1 1 (v := .int .i64 n) rfl rfl; have f3_ := HS.out.c 1 2 (v := .slice A l.length c) rfl rfl; have f4_ := HS.out.c 0 0 (v := .int .i64 d2) rfl rfl; have f5_ := HS.out.c 0 1 (v := .int .i64 n2) rfl rfl; have f6_ := HS.out.c 0 2 (v := .slice A2 l2.length c2) rfl rfl) | (go_at_call 115; refine (HC.out _).mono ?_; rintro e_ w1 ⟨rfl, hb⟩; replace HS := sB HS hb; clear hb f1_ f2_ f3_ f4_ f5_ f6_))
        go_ret
        exact ⟨rfl, HS.out.below⟩
end Go.Proofs.YtibjkjhpfmmjoaaGreat.H
namespace Go.Proofs.YtibjkjhpfmmjoaaGreat.M
def twoR (f : Nat → Nat → Ts → Ts → Option Ts) (d n : Int) (l : Ts) (d2 n2 : Int) (l2 : Ts) : Rs := if codeR d n l d2 n2 l2 = 0 then resO d n (f d.toNat n.toNat l l2) else noS (codeR d n l d2 n2 l2)
end Go.Proofs.YtibjkjhpfmmjoaaGreat.M


namespace Go.Proofs.YtibjkjhpfmmjoaaGreat.H
open Go.RowKit Go.Proofs.YtibjkjhpfmmjoaaGreatW.PrintWords Go.Proofs.YtibjkjhpfmmjoaaGreatW.PrintLast Go.Proofs.YtibjkjhpfmmjoaaGreatW.PrintMore Go.Proofs.YtibjkjhpfmmjoaaGreat.M
attribute [local go_sem] max2_int min2_int max_two min_two max_three min_three max_four min_four resQ
set_option linter.unusedVariables false
set_option linter.unusedSimpArgs false
set_option maxRecDepth 100000
set_option maxHeartbeats 8000000 in
theorem implMultiplySeries (d n : Int) (A : Option Addr) (c : Nat) (l : Ts) (d2 n2 : Int) (A2 : Option Addr) (cc : Nat) (l2 : Ts) (w : World) (hr : KT.C w A l.length l) (hc : l.length ≤ c) (hb : bnd l = true) (hr2 : KT.C w A2 l2.length l2) (hcc : l2.length ≤ cc) (hb2 : bnd l2 = true) :
    Calls Tryz.prog 17 #[.agg #[.int .i64 d, .int .i64 n, .slice A l.length c], .agg #[.int .i64 d2, .int .i64 n2, .slice A2 l2.length cc]] w (RetS w (twoR mulS d n l d2 n2 l2)) := by
  have HR := Aside0.mk hr
  have HB := Aside0.mk hb
  have HR2 := Aside0.mk hr2
  have HB2 := Aside0.mk hb2
  have HS := Aside0.mk (Sep.refl w)
  clear hr hb hr2 hb2
  have HC := Aside0.mk (fun W k1 k2 => implCode d n A c l d2 n2 A2 cc l2 W k1 hc HB.out k2 hcc HB2.out)
  unfold twoR
  obtain ⟨k, hk⟩ : ∃ k, k = codeR d n l d2 n2 l2 := ⟨_, rfl⟩
  rw [← hk] at HC
  rw [← hk]
  by_cases h0 : k = 0
  · subst h0
    obtain ⟨h1, h2, h3, h4⟩ := codeR_zero hk.symm
    subst h3 h4
    clear hk
    have HX := Aside0.mk (isS_t h1)
    have HY := Aside0.mk (isS_t h2)
    have hlev := isS_l h1
    obtain ⟨d, n, rfl, rfl, hd1, hd3, hn1, hn5⟩ := lev_nat hlev
    have HL := Aside0.mk hlev
    clear h1 h2 hlev
    rw [Int.toNat_natCast, Int.toNat_natCast] at HX HY
    rw [Int.toNat_natCast, Int.toNat_natCast]
    rw [if_pos rfl]
    go_enter Tryz.func17, Tryz.ntmps17
    go_wp2_with (first | ((with_reducible refine gate_dst (N := 2) rfl ?_); refine bxL 26 #[.int .i64 (d : Int), .int .i64 (n : Int), .slice A l.length c] HS ?_; clear HS; intro g_p w1 hg_p HS) | ((with_reducible refine gate_dst (N := 3) rfl ?_); refine bxL 26 #[.int .i64 (d : Int), .int .i64 (n : Int), .slice A2 l2.length cc] HS ?_; clear HS; intro g_a w1 hg_a HS) | ((with_reducible refine gate_dst (N := 4) rfl ?_); refine bxL 26 #[(.int .i64 0), (.int .i64 0), (.slice none 0 0)] HS ?_; clear HS; intro g_r w1 hg_r HS; have f1_ := HS.out.c 2 0 (v := .int .i64 (d : Int)) rfl rfl; have f2_ := HS.out.c 2 1 (v := .int .i64 (n : Int)) rfl rfl; have f3_ := HS.out.c 2 2 (v := .slice A l.length c) rfl rfl; have f4_ := HS.out.c 1 0 (v := .int .i64 (d : Int)) rfl rfl; have f5_ := HS.out.c 1 1 (v := .int .i64 (n : Int)) rfl rfl; have f6_ := HS.out.c 1 2 (v := .slice A2 l2.length cc) rfl rfl) | (go_at_call 59; refine (HC.out _ (HS.out.oldC HR.out) (HS.out.oldC HR2.out)).mono ?_; rintro e_ w1 ⟨rfl, hb⟩; replace HS := sB HS hb; clear hb f1_ f2_ f3_ f4_ f5_ f6_))
    replace HS := sD HS
    refine ps (.t 0 (.t 2 (.e 1 (.d 3 (.d 4 (.d 5 (.p 6 (.p 7 (.d 8 (.p 9 .done)))))))))) (fun w' => w'.cell? ⟨g_p, 0, none⟩ = some (.int .i64 (d : Int)) ∧ w'.cell? ⟨g_p, 1, none⟩ = some (.int .i64 (n : Int)) ∧ w'.cell? ⟨g_p, 2, none⟩ = some (.slice A l.length c) ∧ w'.cell? ⟨g_a, 0, none⟩ = some (.int .i64 (d : Int)) ∧ w'.cell? ⟨g_a, 1, none⟩ = some (.int .i64 (n : Int)) ∧ w'.cell? ⟨g_a, 2, none⟩ = some (.slice A2 l2.length cc)) [3, 4, 5, 8] ⟨HS.out.c 2 0 (v := .int .i64 (d : Int)) rfl rfl, HS.out.c 2 1 (v := .int .i64 (n : Int)) rfl rfl, HS.out.c 2 2 (v := .slice A l.length c) rfl rfl, HS.out.c 1 0 (v := .int .i64 (d : Int)) rfl rfl, HS.out.c 1 1 (v := .int .i64 (n : Int)) rfl rfl, HS.out.c 1 2 (v := .slice A2 l2.length cc) rfl rfl⟩ (fun hHeld => ?_)
    repeat (first | ((with_reducible refine gate_p ?_); refine rp rfl rfl ?_) | ((with_reducible refine gate_t ?_); refine rt rfl rfl hHeld ?_))
    refine run_e rfl (fun K hK => ?_)
    refine gc Tryz.func39 (tabOpen A c l _ HL.out (HS.out.oldC HR.out) HX.out) rfl rfl ?_
    rintro e_ w1 ⟨g, v, F, rfl, hF, hQ, hs⟩
    refine ⟨_, rfl, ?_⟩
    replace HS := sN2 HS hs
    clear hs
    have HF1 := Aside0.mk hF; have HQ1 := Aside0.mk hQ; clear hF hQ
    refine ge hK ⟨HS.out.c 4 0 (v := .int .i64 (d : Int)) rfl rfl, HS.out.c 4 1 (v := .int .i64 (n : Int)) rfl rfl, HS.out.c 4 2 (v := .slice A l.length c) rfl rfl, HS.out.c 3 0 (v := .int .i64 (d : Int)) rfl rfl, HS.out.c 3 1 (v := .int .i64 (n : Int)) rfl rfl, HS.out.c 3 2 (v := .slice A2 l2.length cc) rfl rfl⟩ (fun hHeld => ?_)
    clear hK K
    refine run_d rfl (fun K hK => ?_)
    refine gc Tryz.func39 (tabOpen A2 cc l2 _ HL.out (HS.out.oldC HR2.out) HY.out) rfl rfl ?_
    rintro e_ w1 ⟨g2, v2, F2, rfl, hF, hQ, hs⟩
    refine ⟨_, rfl, ?_⟩
    replace HS := sN2 HS hs
    clear hs
    have HF2 := Aside0.mk hF; have HQ2 := Aside0.mk hQ; clear hF hQ
    refine gd hK ?_
    clear hK K
    refine run_d rfl (fun K hK => ?_)
    refine gc Tryz.func60 (tabTimes HL.out ⟨HF1.out, HQ1.out, HS.out.at (i := 2) rfl, HS.out.at (i := 3) rfl⟩ ⟨HF2.out, HQ2.out, HS.out.at (i := 0) rfl, HS.out.at (i := 1) rfl⟩) rfl rfl ?_
    rintro e_ w1 ⟨g3, v3, F3, rfl, hF, hQ, hs⟩
    refine ⟨_, rfl, ?_⟩
    replace HS := sN2 HS hs
    clear hs
    have HF3 := Aside0.mk hF; have HQ3 := Aside0.mk hQ; clear hF hQ
    refine gd hK ?_
    clear hK K
    refine run_d rfl (fun K hK => ?_)
    refine gc Tryz.func41 (tabTold HL.out ⟨HF3.out, HQ3.out, HS.out.at (i := 0) rfl, HS.out.at (i := 1) rfl⟩) rfl rfl ?_
    rintro e_ w1 ⟨B, b, rfl, hs⟩
    refine ⟨_, rfl, ?_⟩
    replace HS := sN1 HS hs
    clear hs
    refine gd hK ?_
    clear hK K
    repeat (first | ((with_reducible refine gate_p ?_); refine rp rfl rfl ?_) | ((with_reducible refine gate_t ?_); refine rt rfl rfl hHeld ?_))
    refine run_d rfl (fun K hK => ?_)
    refine st1 HS 7 0 #[.int .i64 (resO d n (mulS d n l l2)).1, .int .i64 (resO d n (mulS d n l l2)).2.1, .slice B (resO d n (mulS d n l l2)).2.2.1.length b] rfl rfl rfl rfl rfl ?_
    clear HS
    intro w1 HS
    refine goD hK rfl ?_
    clear hK K
    repeat (first | ((with_reducible refine gate_p ?_); refine rp rfl rfl ?_) | ((with_reducible refine gate_t ?_); refine rt rfl rfl hHeld ?_))
    refine run_done ?_
    clear hHeld
    go_wp2
    refine bodyPost_ret (results_cell_tmp_row rfl _ _ g_r 26 #[.int .i64 (resO d n (mulS d n l l2)).1, .int .i64 (resO d n (mulS d n l l2)).2.1, .slice B (resO d n (mulS d n l l2)).2.2.1.length b] (0, 0) _ rfl (HS.out.at (i := 7) rfl) Tryz.underlying26 rfl (by kernel_rfl)) rfl ?_
    exact ⟨B, b, rfl, HS.out.sel [0] (by decide)⟩
  · have hkb : (k != 0) = true := by simpa using h0
    rw [if_neg h0]
    clear hk h0
    go_enter Tryz.func17, Tryz.ntmps17
    go_wp2_with (first | ((with_reducible refine gate_dst (N := 2) rfl ?_); refine bxL 26 #[.int .i64 d, .int .i64 n, .slice A l.length c] HS ?_; clear HS; intro g_p w1 hg_p HS) | ((with_reducible refine gate_dst (N := 3) rfl ?_); refine bxL 26 #[.int .i64 d2, .int .i64 n2, .slice A2 l2.length cc] HS ?_; clear HS; intro g_a w1 hg_a HS) | ((with_reducible refine gate_dst (N := 4) rfl ?_); refine bxL 26 #[(.int .i64 0), (.int .i64 0), (.slice none 0 0)] HS ?_; clear HS; intro g_r w1 hg_r HS; have f1_ := HS.out.c 2 0 (v := .int .i64 d) rfl rfl; have f2_ := HS.out.c 2 1 (v := .int .i64 n) rfl rfl; have f3_ := HS.out.c 2 2 (v := .slice A l.length c) rfl rfl; have f4_ := HS.out.c 1 0 (v := .int .i64 d2) rfl rfl; have f5_ := HS.out.c 1 1 (v := .int .i64 n2) rfl rfl; have f6_ := HS.out.c 1 2 (v := .slice A2 l2.length cc) rfl rfl) | (go_at_call 59; refine (HC.out _ (HS.out.oldC HR.out) (HS.out.oldC HR2.out)).mono ?_; rintro e_ w1 ⟨rfl, hb⟩; replace HS := sB HS hb; clear hb f1_ f2_ f3_ f4_ f5_ f6_) | ((with_reducible refine gate_store (t := 26) (p := 4) rfl ?_); refine stL HS 0 0 #[(.int .i64 0), (.int .i64 0), (.slice none 0 0)] rfl rfl rfl rfl rfl ?_; clear HS; intro w1 HS))
    refine bodyPost_ret (results_cell_tmp_row rfl _ _ g_r 26 #[(.int .i64 0), (.int .i64 0), (.slice none 0 0)] (0, 0) _ rfl (HS.out.at (i := 0) rfl) Tryz.underlying26 rfl (by kernel_rfl)) rfl ?_
    exact ⟨none, 0, rfl, nilS (HS.out.sel [] (by decide))⟩
end Go.Proofs.YtibjkjhpfmmjoaaGreat.H



namespace Go.Proofs.YtibjkjhpfmmjoaaGreat.M
def unitR (d n : Int) : Rs := if lev d n = true then (d, n, unitT, 0) else noS 2
end Go.Proofs.YtibjkjhpfmmjoaaGreat.M
namespace Go.Proofs.YtibjkjhpfmmjoaaGreat.H
open Go.RowKit Go.Proofs.YtibjkjhpfmmjoaaGreatW.PrintWords Go.Proofs.YtibjkjhpfmmjoaaGreatW.PrintLast Go.Proofs.YtibjkjhpfmmjoaaGreatW.PrintMore Go.Proofs.YtibjkjhpfmmjoaaGreat.M
attribute [local go_sem] max2_int min2_int max_two min_two max_three min_three max_four min_four
set_option linter.unusedVariables false
set_option linter.unusedSimpArgs false
set_option maxRecDepth 100000
set_option maxHeartbeats 4000000 in
theorem implUnitSeries (d n : Int) (w : World) : Calls Tryz.prog 18 #[.int .i64 d, .int .i64 n] w (RetS w (unitR d n)) := by
  have HS := Aside0.mk (Sep.refl w)
  unfold unitR
  cases h : lev d n with
  | false =>
    go_enter Tryz.func18, Tryz.ntmps18
    go_wp2_with (first | ((with_reducible refine gate_dst (N := 4) rfl ?_); refine bxL 26 #[(.int .i64 0), (.int .i64 0), (.slice none 0 0)] HS ?_; clear HS; intro g_r w1 hg_r HS) | (go_at_call 61; refine (implLevel _ _ _).mono ?_; rintro e_ w1 ⟨rfl, hb⟩; replace HS := sB HS hb; clear hb) | ((with_reducible refine gate_store (t := 26) (p := 4) rfl ?_); refine stL HS 0 0 #[(.int .i64 0), (.int .i64 0), (.slice none 0 0)] rfl rfl rfl rfl rfl ?_; clear HS; intro w1 HS))
    refine bodyPost_ret (results_cell_tmp_row rfl _ _ g_r 26 #[(.int .i64 0), (.int .i64 0), (.slice none 0 0)] (0, 0) _ rfl (HS.out.at (i := 0) rfl) Tryz.underlying26 rfl (by kernel_rfl)) rfl ?_
    replace HS : Aside0 (Mod _ _ _ []) := sX HS []
    exact ⟨none, 0, rfl, nilS HS.out⟩
  | true =>
    obtain ⟨d, n, rfl, rfl, hd1, hd3, hn1, hn5⟩ := lev_nat h
    have HL := Aside0.mk h
    have HU := Aside0.mk (show toldR d n (upd (fun _ => (0, 1)) eps (1, 1), false) = ((d : Int), (n : Int), unitT, 0) by unfold toldR; rw [if_neg (by simp), tabT_unit (by omega)])
    have HTo := Aside0.mk (fun g v W h1 h2 => HU.out ▸ implTold g v d n false (upd (fun _ => (0, 1)) eps (1, 1)) W HL.out h1 h2)
    go_enter Tryz.func18, Tryz.ntmps18
    go_wp2_with (first | ((with_reducible refine gate_dst (N := 4) rfl ?_); refine bxL 26 #[(.int .i64 0), (.int .i64 0), (.slice none 0 0)] HS ?_; clear HS; intro g_r w1 hg_r HS) | (go_at_call 61; refine (implLevel _ _ _).mono ?_; rintro e_ w1 ⟨rfl, hb⟩; replace HS := sB HS hb; clear hb) | (go_at_call 62; refine (implNew d n HL.out _).mono ?_; rintro e_ w1 ⟨g, v, rfl, hs⟩; replace HS := sN2 HS hs; clear hs) | (go_at_call 63; refine (implUnit g v d n _ false _ HL.out (HS.out.at (i := 0) rfl)).mono ?_; rintro e_ w1 ⟨g', v', rfl, hs⟩; replace HS := sN2 HS hs; clear hs) | (go_at_call 41; refine (HTo.out g' v' _ (HS.out.at (i := 0) rfl) (HS.out.at (i := 1) rfl)).mono ?_; rintro e_ w1 ⟨B, b, rfl, hs⟩; replace HS := sN1 HS hs; clear hs) | ((with_reducible refine gate_store (t := 26) (p := 4) rfl ?_); refine stL HS 5 0 #[.int .i64 (d : Int), .int .i64 (n : Int), .slice B unitT.length b] rfl rfl rfl rfl rfl ?_; clear HS; intro w1 HS))
    refine bodyPost_ret (results_cell_tmp_row rfl _ _ g_r 26 #[.int .i64 (d : Int), .int .i64 (n : Int), .slice B unitT.length b] (0, 0) _ rfl (HS.out.at (i := 5) rfl) Tryz.underlying26 rfl (by kernel_rfl)) rfl ?_
    replace HS : Aside0 (Mod _ _ _ [_]) := sX HS [0]
    exact ⟨B, b, rfl, HS.out⟩
end Go.Proofs.YtibjkjhpfmmjoaaGreat.H



namespace Go.Proofs.YtibjkjhpfmmjoaaGreat.M
set_option linter.unusedVariables false
set_option linter.unusedSimpArgs false
theorem isS_mk {d n : Int} {p : Ts} (h : lev d n = true) (hp : isTs d.toNat n.toNat p = true) : isS d n p = true := by unfold isS; rw [h, hp]; rfl
theorem lev_nat {d n : Int} (h : lev d n = true) : d.toNat ≤ 3 ∧ n.toNat ≤ 5 ∧ d.toNat ≤ 9 := by have := lev_iff.1 h; omega
theorem isS_bnd' {d n : Int} {p : Ts} (h : isS d n p = true) : bnd p = true := by
  obtain ⟨h1, h2, _⟩ := lev_nat (isS_l h)
  exact isTs_bnd h1 h2 (isS_t h)
theorem resO_cases {d n : Int} (hl : lev d n = true) {o : Option Ts} (ho : ∀ p, o = some p → isTs d.toNat n.toNat p = true) : (∃ p, o = some p ∧ resO d n o = (d, n, p, 0) ∧ isS d n p = true) ∨ (o = none ∧ resO d n o = noS 3) := by
  cases o with
  | none => exact .inr ⟨rfl, rfl⟩
  | some p => exact .inl ⟨p, rfl, rfl, isS_mk hl (ho p rfl)⟩
abbrev mulR (d n : Int) (l : Ts) (d2 n2 : Int) (l2 : Ts) : Rs := twoR mulS d n l d2 n2 l2
theorem codeR_same {d n : Int} {x y : Ts} (hx : isS d n x = true) (hy : isS d n y = true) : codeR d n x d n y = 0 := codeR_4 hx hy (by simp)
theorem mulR_same {d n : Int} {x y : Ts} (hx : isS d n x = true) (hy : isS d n y = true) : mulR d n x d n y = resO d n (mulS d.toNat n.toNat x y) := by
  unfold mulR twoR
  rw [if_pos (codeR_same hx hy)]
theorem mulR_cases (d n : Int) (x : Ts) (d2 n2 : Int) (y : Ts) :
    (∃ p, isS d n x = true ∧ isS d n y = true ∧ d = d2 ∧ n = n2 ∧ mulS d.toNat n.toNat x y = some p ∧ mulR d n x d2 n2 y = (d, n, p, 0) ∧ isS d n p = true) ∨ ∃ c, c ≠ 0 ∧ mulR d n x d2 n2 y = noS c := by
  by_cases h : codeR d n x d2 n2 y = 0
  · obtain ⟨h1, h2, h3, h4⟩ := codeR_zero h
    subst h3 h4
    obtain ⟨_, _, h9⟩ := lev_nat (isS_l h1)
    rw [mulR_same h1 h2]
    rcases resO_cases (isS_l h1) (o := mulS d.toNat n.toNat x y) fun p hp => mul_ts h9 hp with ⟨p, e1, e2, e3⟩ | ⟨e1, e2⟩
    · exact .inl ⟨p, h1, h2, rfl, rfl, e1, e2, e3⟩
    · exact .inr ⟨3, by decide, e2⟩
  · refine .inr ⟨_, h, ?_⟩
    unfold mulR twoR
    rw [if_neg h]
theorem unitR_yes {d n : Int} (h : lev d n = true) : unitR d n = (d, n, unitT, 0) := by unfold unitR; rw [if_pos h]
end Go.Proofs.YtibjkjhpfmmjoaaGreat.M

