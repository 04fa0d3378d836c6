/- Plain facts and contracts of functions that the law's walk uses. Conditions: those that stand in each statement. -/
import Derived.Test.YtibjkjhpfmmjoaaShG11
import Derived.Test.YtibjkjhpfmmjoaaShG8
import Derived.Deep.CutRange
import Derived.Test.YtibjkjhpfmmjoaaShG10
import Derived.Test.YtibjkjhpfmmjoaaShG9
import Derived.Test.YtibjkjhpfmmjoaaShG12
import Derived.Test.YtibjkjhpfmmjoaaShG2
set_option linter.unusedVariables false
set_option linter.unusedSimpArgs false
namespace Go.Proofs.Ytibjkjhpfmmjoaa.M
def shpR (d n : Int) (l : Ts) (k : Int) : Rs := if isS d n l = true then if inR k 0 8 = true then resO d n (shP d.toNat n.toNat l k.toNat) else noS 2 else noS 1
theorem shp_len {d n : Int} {l : Ts} {k : Int} : (shpR d n l k).2.2.1.length ≤ 1048576 := by
  unfold shpR
  split
  · rename_i h
    split
    · have hl := lev_iff.1 (isS_l h)
      obtain ⟨F, hF⟩ := rel_any (d := d.toNat) (n := n.toNat) (o := shP d.toNat n.toNat l k.toNat) fun z hz => shP_ts (by omega) hz
      exact resO_len (by omega) (by omega) hF
    · show (0 : Nat) ≤ _; decide
  · show (0 : Nat) ≤ _; decide
end Go.Proofs.Ytibjkjhpfmmjoaa.M
namespace Go.Proofs.Ytibjkjhpfmmjoaa.H
open Go.RowKit Go.Proofs.YtibjkjhpfmmjoaaW.PrintWords Go.Proofs.YtibjkjhpfmmjoaaW.PrintLast Go.Proofs.YtibjkjhpfmmjoaaW.PrintMore Go.Proofs.Ytibjkjhpfmmjoaa.M
attribute [local go_sem] max2_int min2_int max_two min_two max_three min_three max_four min_four resQ
set_option linter.unusedVariables false
set_option linter.unusedSimpArgs false
set_option maxRecDepth 100000
set_option maxHeartbeats 4000000 in
theorem specOne1 (d n : Int) (s : ByteArray) (w : World) : Calls Try.prog 99 #[.int .i64 d, .int .i64 n, .string s] w fun e w' => ∃ B b, e = .returned (.agg #[.int .i64 d, .int .i64 n, .slice B 1 b]) ∧ Sep w w' [rowT B b [(s, 1, 1)]] := by
  have HS := Aside0.mk (Sep.refl w)
  go_enter Try.func99, Try.ntmps99
  go_wp2_with (first | ((with_reducible refine gate_dst (N := 6) rfl ?_); refine bxL 26 #[(.int .i64 0), (.int .i64 0), (.slice none 0 0)] HS ?_; clear HS; intro g_r w1 hg_r HS) | ((with_reducible refine gate_dst (N := 12) rfl ?_); refine wpList_stp (fun K hK => ?_); refine stp_lit (KT) rfl 38 (by rfl) HS (xs := [((s, 1, 1) : Tm)]) (inner := [.string s, .int .i64 1, .int .i64 1]) (by first | (go_simp; done) | (go_simp; rfl)) (fun W base ok => Reps.snoc (Reps.none _ _) (KT_M (s, 1, 1) W base ok) rfl) (by simp) ?_; clear HS; intro A_z c_z w1 HS; refine hK _ _ ?_; clear hK K) | ((with_reducible refine gate_store (t := 26) (p := 6) rfl ?_); refine stL HS 1 0 #[(.int .i64 d), (.int .i64 n), (.slice A_z ([((s, 1, 1) : Tm)]).length c_z)] rfl rfl rfl rfl rfl ?_; clear HS; intro w1 HS))
  refine bodyPost_ret (results_cell_row rfl _ _ g_r 26 #[(.int .i64 d), (.int .i64 n), (.slice A_z ([((s, 1, 1) : Tm)]).length c_z)] (0, 0) _ rfl (HS.out.at (i := 1) rfl) Try.underlying26 rfl (by kernel_rfl)) rfl ?_
  replace HS : Aside0 (Mod _ _ _ [_]) := sX HS [0]
  exact ⟨A_z, c_z, rfl, HS.out⟩
set_option maxHeartbeats 8000000 in
theorem specShufflePower (d n : Int) (A : Option Addr) (c : Nat) (l : Ts) (k : Int) (w : World) (hr : KT.C w A l.length l) (hc : l.length ≤ c) (hb : bnd l = true) :
    Calls Try.prog 47 #[.agg #[.int .i64 d, .int .i64 n, .slice A l.length c], .int .i64 k] w (RetS w (shpR d n l k)) := by
  have HR := Aside0.mk hr
  have HB := Aside0.mk hb
  have HS := Aside0.mk (Sep.refl w)
  clear hr hb
  unfold shpR
  cases h : isS d n l with
  | false =>
    go_enter Try.func47, Try.ntmps47
    go_wp2_with (first | ((with_reducible refine gate_dst (N := 2) rfl ?_); refine bxL 26 #[.int .i64 d, .int .i64 n, .slice A l.length c] HS ?_; clear HS; intro g_p w1 hg_p HS) | ((with_reducible refine gate_dst (N := 4) rfl ?_); refine bxL 26 #[(.int .i64 0), (.int .i64 0), (.slice none 0 0)] HS ?_; clear HS; intro g_r w1 hg_r HS; have f1_ := HS.out.c 1 0 (v := .int .i64 d) rfl rfl; have f2_ := HS.out.c 1 1 (v := .int .i64 n) rfl rfl; have f3_ := HS.out.c 1 2 (v := .slice A l.length c) rfl rfl) | (go_at_call 54; refine (specIs d n A c l _ (HS.out.oldC HR.out) hc HB.out).mono ?_; rintro e_ w1 ⟨rfl, hb⟩; replace HS := sB HS hb; clear hb f1_ f2_ f3_) | ((with_reducible refine gate_store (t := 26) (p := 4) rfl ?_); refine stL HS 0 0 #[(.int .i64 0), (.int .i64 0), (.slice none 0 0)] rfl rfl rfl rfl rfl ?_; clear HS; intro w1 HS))
    refine bodyPost_ret (results_cell_tmp_row rfl _ _ g_r 26 #[(.int .i64 0), (.int .i64 0), (.slice none 0 0)] (0, 0) _ rfl (HS.out.at (i := 0) rfl) Try.underlying26 rfl (by kernel_rfl)) rfl ?_
    exact ⟨none, 0, rfl, nilS (HS.out.sel [] (by decide))⟩
  | true =>
    have HX := Aside0.mk (isS_t h)
    obtain ⟨d, n, rfl, rfl, hd1, hd3, hn1, hn5⟩ := lev_nat (isS_l h)
    have hd9 : d ≤ 9 := by omega
    rw [Int.toNat_natCast, Int.toNat_natCast] at HX ⊢
    cases h2 : inR k 0 8 with
    | false =>
      go_enter Try.func47, Try.ntmps47
      go_wp2_with (first | ((with_reducible refine gate_dst (N := 2) rfl ?_); refine bxL 26 #[.int .i64 (d : Int), .int .i64 (n : Int), .slice A l.length c] HS ?_; clear HS; intro g_p w1 hg_p HS) | ((with_reducible refine gate_dst (N := 4) rfl ?_); refine bxL 26 #[(.int .i64 0), (.int .i64 0), (.slice none 0 0)] HS ?_; clear HS; intro g_r w1 hg_r HS; have f1_ := HS.out.c 1 0 (v := .int .i64 (d : Int)) rfl rfl; have f2_ := HS.out.c 1 1 (v := .int .i64 (n : Int)) rfl rfl; have f3_ := HS.out.c 1 2 (v := .slice A l.length c) rfl rfl) | (go_at_call 54; refine (specIs d n A c l _ (HS.out.oldC HR.out) hc HB.out).mono ?_; rintro e_ w1 ⟨rfl, hb⟩; replace HS := sB HS hb; clear hb f1_ f2_ f3_) | (go_at_call 61; refine (specInB _ _ _ _).mono ?_; rintro e_ w1 ⟨rfl, hb⟩; replace HS := sB HS hb; clear hb) | ((with_reducible refine gate_store (t := 26) (p := 4) rfl ?_); refine stL HS 0 0 #[(.int .i64 0), (.int .i64 0), (.slice none 0 0)] rfl rfl rfl rfl rfl ?_; clear HS; intro w1 HS))
      refine bodyPost_ret (results_cell_tmp_row rfl _ _ g_r 26 #[(.int .i64 0), (.int .i64 0), (.slice none 0 0)] (0, 0) _ rfl (HS.out.at (i := 0) rfl) Try.underlying26 rfl (by kernel_rfl)) rfl ?_
      exact ⟨none, 0, rfl, nilS (HS.out.sel [] (by decide))⟩
    | true =>
      have h3 := (inR_iff _ _ _).1 h2
      obtain ⟨kk, rfl⟩ : ∃ kk : Nat, k = kk := ⟨k.toNat, by omega⟩
      rw [Int.toNat_natCast, if_pos rfl, if_pos rfl]
      have hkk : kk ≤ 8 := by omega
      clear h3
      have HTM := Aside0.mk (fun B b (z : Ts) W k1 k2 k3 (hz : isTs d n z = true) => shF_def d n z l ▸ specShuffleF d n hd3 hn5 B b z A c l W k1 k2 k3 hc hz HX.out)
      go_enter Try.func47, Try.ntmps47
      go_wp2_with (first | ((with_reducible refine gate_dst (N := 2) rfl ?_); refine bxL 26 #[.int .i64 (d : Int), .int .i64 (n : Int), .slice A l.length c] HS ?_; clear HS; intro g_p w1 hg_p HS) | ((with_reducible refine gate_dst (N := 4) rfl ?_); refine bxL 26 #[(.int .i64 0), (.int .i64 0), (.slice none 0 0)] HS ?_; clear HS; intro g_r w1 hg_r HS; have f1_ := HS.out.c 1 0 (v := .int .i64 (d : Int)) rfl rfl; have f2_ := HS.out.c 1 1 (v := .int .i64 (n : Int)) rfl rfl; have f3_ := HS.out.c 1 2 (v := .slice A l.length c) rfl rfl) | (go_at_call 54; refine (specIs d n A c l _ (HS.out.oldC HR.out) hc HB.out).mono ?_; rintro e_ w1 ⟨rfl, hb⟩; replace HS := sB HS hb; clear hb f1_ f2_ f3_) | (go_at_call 61; refine (specInB _ _ _ _).mono ?_; rintro e_ w1 ⟨rfl, hb⟩; replace HS := sB HS hb; clear hb; have f1_ := HS.out.c 1 0 (v := .int .i64 (d : Int)) rfl rfl; have f2_ := HS.out.c 1 1 (v := .int .i64 (n : Int)) rfl rfl) | (go_at_call 99; refine (specOne1 d n eps _).mono ?_; rintro e_ w1 ⟨B, b, rfl, hs⟩; replace HS := sN1 HS hs; clear hs f1_ f2_) | ((with_reducible refine gate_dst (N := 6) rfl ?_); refine bxL 26 #[(.int .i64 0), (.int .i64 0), (.slice none 0 0)] HS ?_; clear HS; intro g_q w1 hg_q HS) | ((with_reducible refine gate_store (t := 26) (p := 6) rfl ?_); refine stL HS 0 0 #[.int .i64 (d : Int), .int .i64 (n : Int), .slice B unitT.length b] rfl rfl rfl rfl rfl ?_; clear HS; intro w1 HS))
      simp only [Act.put, List.setIfInBounds_toArray, List.set_cons_zero, List.set_cons_succ]
      go_loopw [1] (fun v w' => ∃ (j : Nat) (B : Option Addr) (b : Nat) (z : Ts), j ≤ kk ∧ v = .int .i64 (j : Int) ∧ Aside0 (shP d n l (kk - j) = some z) ∧ Aside0 (Mod w w' No [bx g_q 26 #[.int .i64 (d : Int), .int .i64 (n : Int), .slice B z.length b], rowT B b z, bx g_r 26 #[(.int .i64 0), (.int .i64 0), (.slice none 0 0)], bx g_p 26 #[.int .i64 (d : Int), .int .i64 (n : Int), .slice A l.length c]])) (fun v _ => (intOf v).toNat)
      case atStart => exact ⟨kk, B, b, unitT, by omega, rfl, ⟨by rw [Nat.sub_self]; rfl⟩, sX HS [0, 1, 2, 3]⟩
      case round =>
        clear HS
        obtain ⟨j, B, b, z, hj, rfl, HZ, HS⟩ := hrel
        have HZT := Aside0.mk (shP_ts hd9 HZ.out)
        by_cases hlt : 0 < j
        · obtain ⟨m, hm⟩ : ∃ m, m = shF d n z l := ⟨_, rfl⟩
          have HP := Aside0.mk (fun W k1 k2 k3 => hm ▸ HTM.out B b z W k1 k2 k3 HZT.out)
          have HN := Aside0.mk (show shP d n l (kk - (j - 1)) = m by rw [show kk - (j - 1) = kk - j + 1 by omega, shP, HZ.out, hm]; rfl)
          clear hm
          cases m with
          | none =>
            have f1_ := HS.out.c 0 0 (v := .int .i64 (d : Int)) rfl rfl
            have f2_ := HS.out.c 0 1 (v := .int .i64 (n : Int)) rfl rfl
            have f3_ := HS.out.c 0 2 (v := .slice B z.length b) rfl rfl
            have f4_ := HS.out.c 3 0 (v := .int .i64 (d : Int)) rfl rfl
            have f5_ := HS.out.c 3 1 (v := .int .i64 (n : Int)) rfl rfl
            have f6_ := HS.out.c 3 2 (v := .slice A l.length c) rfl rfl
            go_wp2_with (first | (go_at_call 95; refine (HP.out _ (HS.out.reads 1 rfl) (HS.out.cap 1 rfl) (HS.out.oldC HR.out)).mono ?_; rintro e_ w1 ⟨B2, b2, rfl, hs⟩; replace HS := sN1 HS hs; clear hs f1_ f2_ f3_ f4_ f5_ f6_) | ((with_reducible refine gate_dst (N := 7) rfl ?_); refine bxL 26 #[(.int .i64 0), (.int .i64 0), (.slice none 0 0)] HS ?_; clear HS; intro g_y w1 hg_y HS) | ((with_reducible refine gate_store (t := 26) (p := 7) rfl ?_); refine stL HS 0 0 #[.int .i64 0, .int .i64 0, .slice B2 ([] : Ts).length b2] rfl rfl rfl rfl rfl ?_; clear HS; intro w1 HS) | ((with_reducible refine gate_store (t := 26) (p := 4) rfl ?_); refine stL HS 4 0 #[(.int .i64 0), (.int .i64 0), (.slice none 0 0)] rfl rfl rfl rfl rfl ?_; clear HS; intro w1 HS))
            refine bodyPost_ret (results_cell_tmp_row rfl _ _ g_r 26 #[(.int .i64 0), (.int .i64 0), (.slice none 0 0)] (0, 0) _ rfl (HS.out.at (i := 4) rfl) Try.underlying26 rfl (by kernel_rfl)) rfl ?_
            rw [shP_none HN.out (by omega)]
            exact ⟨none, 0, rfl, nilS (HS.out.sel [] (by decide))⟩
          | some z' =>
            have f1_ := HS.out.c 0 0 (v := .int .i64 (d : Int)) rfl rfl
            have f2_ := HS.out.c 0 1 (v := .int .i64 (n : Int)) rfl rfl
            have f3_ := HS.out.c 0 2 (v := .slice B z.length b) rfl rfl
            have f4_ := HS.out.c 3 0 (v := .int .i64 (d : Int)) rfl rfl
            have f5_ := HS.out.c 3 1 (v := .int .i64 (n : Int)) rfl rfl
            have f6_ := HS.out.c 3 2 (v := .slice A l.length c) rfl rfl
            go_wp2_with (first | (go_at_call 95; refine (HP.out _ (HS.out.reads 1 rfl) (HS.out.cap 1 rfl) (HS.out.oldC HR.out)).mono ?_; rintro e_ w1 ⟨B2, b2, rfl, hs⟩; replace HS := sN1 HS hs; clear hs f1_ f2_ f3_ f4_ f5_ f6_) | ((with_reducible refine gate_dst (N := 7) rfl ?_); refine bxL 26 #[(.int .i64 0), (.int .i64 0), (.slice none 0 0)] HS ?_; clear HS; intro g_y w1 hg_y HS) | ((with_reducible refine gate_store (t := 26) (p := 7) rfl ?_); refine stL HS 0 0 #[.int .i64 (d : Int), .int .i64 (n : Int), .slice B2 z'.length b2] rfl rfl rfl rfl rfl ?_; clear HS; intro w1 HS; have f1_ := HS.out.c 0 0 (v := .int .i64 (d : Int)) rfl rfl; have f2_ := HS.out.c 0 1 (v := .int .i64 (n : Int)) rfl rfl; have f3_ := HS.out.c 0 2 (v := .slice B2 z'.length b2) rfl rfl) | ((with_reducible refine gate_store (t := 26) (p := 6) rfl ?_); refine stL HS 2 0 #[.int .i64 (d : Int), .int .i64 (n : Int), .slice B2 z'.length b2] rfl rfl rfl rfl rfl ?_; clear HS f1_ f2_ f3_; intro w1 HS))
            go_roundw
            case rel => exact ⟨j - 1, B2, b2, z', by omega, by first | go_num | (congr 1; omega), HN, sX HS [2, 1, 4, 5]⟩
            case measure => simp [intOf]; omega
        · obtain rfl : j = 0 := by omega
          have f1_ := HS.out.c 0 0 (v := .int .i64 (d : Int)) rfl rfl
          have f2_ := HS.out.c 0 1 (v := .int .i64 (n : Int)) rfl rfl
          have f3_ := HS.out.c 0 2 (v := .slice B z.length b) rfl rfl
          go_wp2_with (first | ((with_reducible refine gate_store (t := 26) (p := 4) rfl ?_); refine stL HS 2 0 #[.int .i64 (d : Int), .int .i64 (n : Int), .slice B z.length b] rfl rfl rfl rfl rfl ?_; clear HS f1_ f2_ f3_; intro w1 HS))
          refine bodyPost_ret (results_cell_tmp_row rfl _ _ g_r 26 #[.int .i64 (d : Int), .int .i64 (n : Int), .slice B z.length b] (0, 0) _ rfl (HS.out.at (i := 2) rfl) Try.underlying26 rfl (by kernel_rfl)) rfl ?_
          have e_ : shP d n l kk = some z := HZ.out
          rw [e_]
          exact ⟨B, b, rfl, HS.out.sel [1] (by decide)⟩
set_option maxHeartbeats 8000000 in
theorem implShufflePower (d n : Int) (A : Option Addr) (c : Nat) (l : Ts) (k : Int) (w : World) (hr : KT.C w A l.length l) (hc : l.length ≤ c) (hb : bnd l = true) :
    Calls Try.prog 46 #[.agg #[.int .i64 d, .int .i64 n, .slice A l.length c], .int .i64 k] w (RetS w (shpR d n l k)) := by
  have HR := Aside0.mk hr
  have HB := Aside0.mk hb
  have HS := Aside0.mk (Sep.refl w)
  clear hr hb
  unfold shpR
  cases h : isS d n l with
  | false =>
    go_enter Try.func46, Try.ntmps46
    go_wp2_with (first | ((with_reducible refine gate_dst (N := 2) rfl ?_); refine bxL 26 #[.int .i64 d, .int .i64 n, .slice A l.length c] HS ?_; clear HS; intro g_p w1 hg_p HS) | ((with_reducible refine gate_dst (N := 4) rfl ?_); refine bxL 26 #[(.int .i64 0), (.int .i64 0), (.slice none 0 0)] HS ?_; clear HS; intro g_r w1 hg_r HS; have f1_ := HS.out.c 1 0 (v := .int .i64 d) rfl rfl; have f2_ := HS.out.c 1 1 (v := .int .i64 n) rfl rfl; have f3_ := HS.out.c 1 2 (v := .slice A l.length c) rfl rfl) | (go_at_call 52; refine (implIs d n A c l _ (HS.out.oldC HR.out) hc HB.out).mono ?_; rintro e_ w1 ⟨rfl, hb⟩; replace HS := sB HS hb; clear hb f1_ f2_ f3_) | ((with_reducible refine gate_store (t := 26) (p := 4) rfl ?_); refine stL HS 0 0 #[(.int .i64 0), (.int .i64 0), (.slice none 0 0)] rfl rfl rfl rfl rfl ?_; clear HS; intro w1 HS))
    refine bodyPost_ret (results_cell_tmp_row rfl _ _ g_r 26 #[(.int .i64 0), (.int .i64 0), (.slice none 0 0)] (0, 0) _ rfl (HS.out.at (i := 0) rfl) Try.underlying26 rfl (by kernel_rfl)) rfl ?_
    exact ⟨none, 0, rfl, nilS (HS.out.sel [] (by decide))⟩
  | true =>
    have HX := Aside0.mk (isS_t h)
    have HIS := Aside0.mk h
    have hlev := isS_l h
    obtain ⟨d, n, rfl, rfl, hd1, hd3, hn1, hn5⟩ := lev_nat hlev
    have hd9 : d ≤ 9 := by omega
    have HUN := Aside0.mk (fun W => (show unitR d n = ((d : Int), (n : Int), unitT, 0) by unfold unitR; rw [if_pos hlev]) ▸ implUnitSeries d n W)
    have HLV := Aside0.mk hlev
    clear hlev
    rw [Int.toNat_natCast, Int.toNat_natCast] at HX ⊢
    cases h2 : inR k 0 8 with
    | false =>
      go_enter Try.func46, Try.ntmps46
      go_wp2_with (first | ((with_reducible refine gate_dst (N := 2) rfl ?_); refine bxL 26 #[.int .i64 (d : Int), .int .i64 (n : Int), .slice A l.length c] HS ?_; clear HS; intro g_p w1 hg_p HS) | ((with_reducible refine gate_dst (N := 4) rfl ?_); refine bxL 26 #[(.int .i64 0), (.int .i64 0), (.slice none 0 0)] HS ?_; clear HS; intro g_r w1 hg_r HS; have f1_ := HS.out.c 1 0 (v := .int .i64 (d : Int)) rfl rfl; have f2_ := HS.out.c 1 1 (v := .int .i64 (n : Int)) rfl rfl; have f3_ := HS.out.c 1 2 (v := .slice A l.length c) rfl rfl) | (go_at_call 52; refine (implIs d n A c l _ (HS.out.oldC HR.out) hc HB.out).mono ?_; rintro e_ w1 ⟨rfl, hb⟩; replace HS := sB HS hb; clear hb f1_ f2_ f3_) | (go_at_call 58; refine (implInB _ _ _ _).mono ?_; rintro e_ w1 ⟨rfl, hb⟩; replace HS := sB HS hb; clear hb) | ((with_reducible refine gate_store (t := 26) (p := 4) rfl ?_); refine stL HS 0 0 #[(.int .i64 0), (.int .i64 0), (.slice none 0 0)] rfl rfl rfl rfl rfl ?_; clear HS; intro w1 HS))
      refine bodyPost_ret (results_cell_tmp_row rfl _ _ g_r 26 #[(.int .i64 0), (.int .i64 0), (.slice none 0 0)] (0, 0) _ rfl (HS.out.at (i := 0) rfl) Try.underlying26 rfl (by kernel_rfl)) rfl ?_
      exact ⟨none, 0, rfl, nilS (HS.out.sel [] (by decide))⟩
    | true =>
      have h3 := (inR_iff _ _ _).1 h2
      obtain ⟨kk, rfl⟩ : ∃ kk : Nat, k = kk := ⟨k.toNat, by omega⟩
      rw [Int.toNat_natCast, if_pos rfl, if_pos rfl]
      have hkk : kk ≤ 8 := by omega
      clear h3
      have HTM := Aside0.mk (fun B b (z : Ts) W k1 k2 k3 k4 (hz : isTs d n z = true) => (show twoR shF d n z d n l = resO d n (shF d n z l) by unfold twoR; rw [codeR_4 ((isS_lev HLV.out).trans hz) HIS.out (decide_eq_true ⟨rfl, rfl⟩), if_pos rfl, Int.toNat_natCast, Int.toNat_natCast]) ▸ implShuffleSeries d n B b z d n A c l W k1 k2 k3 k4 hc HB.out)
      go_enter Try.func46, Try.ntmps46
      go_wp2_with (first | ((with_reducible refine gate_dst (N := 2) rfl ?_); refine bxL 26 #[.int .i64 (d : Int), .int .i64 (n : Int), .slice A l.length c] HS ?_; clear HS; intro g_p w1 hg_p HS) | ((with_reducible refine gate_dst (N := 4) rfl ?_); refine bxL 26 #[(.int .i64 0), (.int .i64 0), (.slice none 0 0)] HS ?_; clear HS; intro g_r w1 hg_r HS; have f1_ := HS.out.c 1 0 (v := .int .i64 (d : Int)) rfl rfl; have f2_ := HS.out.c 1 1 (v := .int .i64 (n : Int)) rfl rfl; have f3_ := HS.out.c 1 2 (v := .slice A l.length c) rfl rfl) | (go_at_call 52; refine (implIs d n A c l _ (HS.out.oldC HR.out) hc HB.out).mono ?_; rintro e_ w1 ⟨rfl, hb⟩; replace HS := sB HS hb; clear hb f1_ f2_ f3_) | (go_at_call 58; refine (implInB _ _ _ _).mono ?_; rintro e_ w1 ⟨rfl, hb⟩; replace HS := sB HS hb; clear hb; have f1_ := HS.out.c 1 0 (v := .int .i64 (d : Int)) rfl rfl; have f2_ := HS.out.c 1 1 (v := .int .i64 (n : Int)) rfl rfl) | (go_at_call 28; refine (HUN.out _).mono ?_; rintro e_ w1 ⟨B, b, rfl, hs⟩; replace HS := sN1 HS hs; clear hs f1_ f2_) | ((with_reducible refine gate_dst (N := 6) rfl ?_); refine bxL 26 #[(.int .i64 0), (.int .i64 0), (.slice none 0 0)] HS ?_; clear HS; intro g_q w1 hg_q HS) | ((with_reducible refine gate_store (t := 26) (p := 6) rfl ?_); refine stL HS 0 0 #[.int .i64 (d : Int), .int .i64 (n : Int), .slice B unitT.length b] rfl rfl rfl rfl rfl ?_; clear HS; intro w1 HS))
      go_loopw [7, 25] (fun y v w' => ∃ (j : Nat) (B : Option Addr) (b : Nat) (x : Rs), j ≤ kk ∧ v = .int .i64 (j : Int) ∧ y = .int .i64 x.2.2.2 ∧ Aside0 (x = resO d n (shP d n l j)) ∧ Aside0 (Mod w w' No [bx g_q 26 #[.int .i64 x.1, .int .i64 x.2.1, .slice B x.2.2.1.length b], rowT B b x.2.2.1, bx g_r 26 #[(.int .i64 0), (.int .i64 0), (.slice none 0 0)], bx g_p 26 #[.int .i64 (d : Int), .int .i64 (n : Int), .slice A l.length c]])) (fun _ v _ => kk - (intOf v).toNat)
      case atStart => exact ⟨0, B, b, ((d : Int), (n : Int), unitT, 0), by omega, rfl, rfl, ⟨rfl⟩, sX HS [0, 1, 2, 3]⟩
      case round =>
        clear HS
        obtain ⟨j, B, b, x, hj, rfl, rfl, HZ, HS⟩ := hrel
        by_cases hlt : j < kk
        · cases hz : shP d n l j with
          | none =>
            have hx := HZ.out
            rw [hz] at hx
            have HN := Aside0.mk (show resO d n (none : Option Ts) = resO d n (shP d n l (j + 1)) by rw [shP, hz]; rfl)
            clear hz
            subst hx
            go_wp2
            go_roundw
            case rel => exact ⟨j + 1, B, b, resO d n none, by omega, by go_num, rfl, HN, HS⟩
            case measure => simp [intOf]; omega
          | some z =>
            have hx := HZ.out
            rw [hz] at hx
            have HZT := Aside0.mk (shP_ts hd9 hz)
            have HN := Aside0.mk (show resO d n (shF d n z l) = resO d n (shP d n l (j + 1)) by rw [shP, hz]; rfl)
            have HP := Aside0.mk (fun W k1 k2 k3 => HTM.out B b z W k1 k2 (isTs_bnd hd3 hn5 HZT.out) k3 HZT.out)
            obtain ⟨m, hm⟩ : ∃ m, m = resO d n (shF d n z l) := ⟨_, rfl⟩
            rw [← hm] at HP HN
            clear hz hm
            subst hx
            have f1_ := HS.out.c 0 0 (v := .int .i64 (d : Int)) rfl rfl
            have f2_ := HS.out.c 0 1 (v := .int .i64 (n : Int)) rfl rfl
            have f3_ := HS.out.c 0 2 (v := .slice B z.length b) rfl rfl
            have f4_ := HS.out.c 3 0 (v := .int .i64 (d : Int)) rfl rfl
            have f5_ := HS.out.c 3 1 (v := .int .i64 (n : Int)) rfl rfl
            have f6_ := HS.out.c 3 2 (v := .slice A l.length c) rfl rfl
            go_wp2_with (first | (go_at_call 41; refine (HP.out _ (HS.out.reads 1 rfl) (HS.out.cap 1 rfl) (HS.out.oldC HR.out)).mono ?_; rintro e_ w1 ⟨B2, b2, rfl, hs⟩; replace HS := sN1 HS hs; clear hs f1_ f2_ f3_ f4_ f5_ f6_) | ((with_reducible refine gate_store (t := 26) (p := 6) rfl ?_); refine stL HS 1 0 #[.int .i64 m.1, .int .i64 m.2.1, .slice B2 m.2.2.1.length b2] rfl rfl rfl rfl rfl ?_; clear HS; intro w1 HS))
            go_roundw
            case rel => exact ⟨j + 1, B2, b2, m, by omega, by go_num, rfl, HN, sX HS [1, 0, 3, 4]⟩
            case measure => simp [intOf]; omega
        · obtain rfl : j = kk := by omega
          have f1_ := HS.out.c 0 0 (v := .int .i64 x.1) rfl rfl
          have f2_ := HS.out.c 0 1 (v := .int .i64 x.2.1) rfl rfl
          have f3_ := HS.out.c 0 2 (v := .slice B x.2.2.1.length b) rfl rfl
          go_wp2_with (first | ((with_reducible refine gate_store (t := 26) (p := 4) rfl ?_); refine stL HS 2 0 #[.int .i64 x.1, .int .i64 x.2.1, .slice B x.2.2.1.length b] rfl rfl rfl rfl rfl ?_; clear HS f1_ f2_ f3_; intro w1 HS))
          refine bodyPost_ret (results_cell_tmp_row rfl _ _ g_r 26 #[.int .i64 x.1, .int .i64 x.2.1, .slice B x.2.2.1.length b] (0, 0) _ rfl (HS.out.at (i := 2) rfl) Try.underlying26 rfl (by kernel_rfl)) rfl ?_
          rw [← HZ.out]
          exact ⟨B, b, rfl, HS.out.sel [1] (by decide)⟩
end Go.Proofs.Ytibjkjhpfmmjoaa.H



namespace Go.Proofs.Ytibjkjhpfmmjoaa.H
open Go.RowKit Go.Proofs.YtibjkjhpfmmjoaaW.PrintWords Go.Proofs.YtibjkjhpfmmjoaaW.PrintLast Go.Proofs.YtibjkjhpfmmjoaaW.PrintMore Go.Proofs.Ytibjkjhpfmmjoaa.M
set_option linter.unusedVariables false
set_option linter.unusedSimpArgs false
set_option maxRecDepth 100000
set_option maxHeartbeats 64000000 in
theorem lawFnShuffles (A : Option Addr) (c : Nat) (xs : List Int) (w : World) (hr : (Kd.int .u8).C w A xs.length xs) (hxb : ∀ x ∈ xs, 0 ≤ x ∧ x < 256) :
    Calls Try.prog 5 #[.slice A xs.length c] w fun e w' => e = .returned (.bool true) ∧ Below w.heap.size w w' := by
  have HS := Aside0.mk (Sep.refl w)
  have HG := Aside0.mk (fun X => lawBig A c xs.length X)
  by_cases hbig : 4096 < xs.length
  · rw [decide_eq_true hbig] at HG
    clear hr hxb
    go_enter Try.func5, Try.ntmps5
    go_wp2_with (first | (go_at_call 6; refine (HG.out _).mono ?_; rintro e_ w1 ⟨rfl, hb⟩; replace HS := sB HS hb; clear hb))
    go_ret
    exact ⟨rfl, HS.out.below⟩
  · rw [decide_eq_false hbig] at HG
    have HX := Aside0.mk (Bytes.mk hr hxb (by omega))
    clear hr hxb hbig
    go_enter Try.func5, Try.ntmps5
    go_upto_region 4 with (first | (go_at_call 6; refine (HG.out _).mono ?_; rintro e_ w1 ⟨rfl, hb⟩; replace HS := sB HS hb; clear hb) | (go_at_call 32; refine (specDrawShuffleWords A c xs _ (HX.out.old HS.out)).mono ?_; rintro e_ w1 ⟨d, n, v, y, rfl, hd0, hd4, hn0, hn6, hv, hy, hb⟩; replace HS := sB HS hb; clear hb))
    have hv9 : v.size ≤ 1048576 := by omega
    have hy9 : y.size ≤ 1048576 := by omega
    obtain ⟨sd, sn, sl, sc, es⟩ : ∃ (a b : Int) (l : Ts) (c : Int), swR d n v y = (a, b, l, c) := ⟨_, _, _, _, rfl⟩
    have HS_ := Aside0.mk es
    have hsc : (sc != sc) = false := by simp
    have hse : (sc == sc) = true := by simp
    have hsl : sl.length ≤ 1048576 := by have h := sw_len (d := d) (n := n) (v := v) (w := y); rw [es] at h; exact h
    clear es
    have HTM := Aside0.mk (fun t (ht : t ∈ sl) => sw_terms HS_.out ht)
    have hsw := sw_swap d n v y
    rw [HS_.out] at hsw
    have HSW := Aside0.mk hsw
    clear hsw
    go_upto_if 90 with (first | (go_at_call 33; refine (got (implShuffleWords d n v y _ (by omega) (by omega)) HS_.out).mono ?_; rintro e_ w1 ⟨C1, e1, rfl, hs⟩; replace HS := sN1 HS hs; clear hs) | ((with_reducible refine gate_dst (N := 7) rfl ?_); refine bxL 26 #[(.int .i64 0), (.int .i64 0), (.slice none 0 0)] HS ?_; clear HS; intro g_s1 w1 hg_s1 HS) | ((with_reducible refine gate_store (t := 26) (p := 7) rfl ?_); refine stL HS 0 0 #[.int .i64 sd, .int .i64 sn, .slice C1 sl.length e1] rfl rfl rfl rfl rfl ?_; clear HS; intro w1 HS) | (go_at_call 34; refine (got (specShuffleWords d n v y _ (by omega) (by omega)) HS_.out).mono ?_; rintro e_ w1 ⟨C2, e2, rfl, hs⟩; replace HS := sN1 HS hs; clear hs) | ((with_reducible refine gate_dst (N := 9) rfl ?_); refine bxL 26 #[(.int .i64 0), (.int .i64 0), (.slice none 0 0)] HS ?_; clear HS; intro g_s2 w1 hg_s2 HS) | ((with_reducible refine gate_store (t := 26) (p := 9) rfl ?_); refine stL HS 0 0 #[.int .i64 sd, .int .i64 sn, .slice C2 sl.length e2] rfl rfl rfl rfl rfl ?_; clear HS; intro w1 HS; have f1_ := HS.out.c 2 0 (v := .int .i64 sd) rfl rfl; have f2_ := HS.out.c 2 1 (v := .int .i64 sn) rfl rfl; have f3_ := HS.out.c 2 2 (v := .slice C1 sl.length e1) rfl rfl; have f4_ := HS.out.c 0 0 (v := .int .i64 sd) rfl rfl; have f5_ := HS.out.c 0 1 (v := .int .i64 sn) rfl rfl; have f6_ := HS.out.c 0 2 (v := .slice C2 sl.length e2) rfl rfl) | (go_at_call 35; refine (lawSeries5 sd sn C1 C2 e1 e2 sl _ (HS.out.reads 3 rfl) (HS.out.reads 1 rfl) hsl).mono ?_; rintro e_ w1 ⟨rfl, hb⟩; replace HS := sB HS hb; clear hb f1_ f2_ f3_ f4_ f5_ f6_))
    go_cut [] from 80 to 140 (fun w' => Aside0 (Mod w w' No []))
    case first =>
      by_cases hc0 : sc = 0
      · have hcb : (sc == 0) = true := by rw [hc0]; rfl
        have hcn : (sc != 0) = false := by rw [hc0]; rfl
        clear hc0
        go_wp2_with (first | (go_at_call 33; refine (got (implShuffleWords d n y v _ (by omega) (by omega)) HSW.out).mono ?_; rintro e_ w1 ⟨C3, e3, rfl, hs⟩; replace HS := sN1 HS hs; clear hs) | ((with_reducible refine gate_dst (N := 11) rfl ?_); refine bxL 26 #[(.int .i64 0), (.int .i64 0), (.slice none 0 0)] HS ?_; clear HS; intro g_tu w1 hg_tu HS) | ((with_reducible refine gate_store (t := 26) (p := 11) rfl ?_); refine stL HS 0 0 #[.int .i64 sd, .int .i64 sn, .slice C3 sl.length e3] rfl rfl rfl rfl rfl ?_; clear HS; intro w1 HS; have f1_ := HS.out.c 0 0 (v := .int .i64 sd) rfl rfl; have f2_ := HS.out.c 0 1 (v := .int .i64 sn) rfl rfl; have f3_ := HS.out.c 0 2 (v := .slice C3 sl.length e3) rfl rfl; have f4_ := HS.out.c 4 0 (v := .int .i64 sd) rfl rfl; have f5_ := HS.out.c 4 1 (v := .int .i64 sn) rfl rfl; have f6_ := HS.out.c 4 2 (v := .slice C1 sl.length e1) rfl rfl) | (go_at_call 35; refine (lawSeries5 sd sn C3 C1 e3 e1 sl _ (HS.out.reads 1 rfl) (HS.out.reads 5 rfl) hsl).mono ?_; rintro e_ w1 ⟨rfl, hb⟩; replace HS := sB HS hb; clear hb f1_ f2_ f3_ f4_ f5_ f6_))
        go_loopw [13] (fun z w' => ∃ i : Nat, z = .int .i64 (i : Int) ∧ i ≤ sl.length ∧ Aside0 (Mod w w' No [bx g_tu 26 #[.int .i64 sd, .int .i64 sn, .slice C3 sl.length e3], rowT C3 e3 sl, bx g_s2 26 #[.int .i64 sd, .int .i64 sn, .slice C2 sl.length e2], rowT C2 e2 sl, bx g_s1 26 #[.int .i64 sd, .int .i64 sn, .slice C1 sl.length e1], rowT C1 e1 sl])) (fun z _ => sl.length - (intOf z).toNat)
        case atStart => exact ⟨0, rfl, Nat.zero_le _, HS⟩
        case round =>
          clear HS
          obtain ⟨i, rfl, hi, HS⟩ := hrel
          by_cases hlt : i < sl.length
          · obtain ⟨t, ht⟩ : ∃ t, sl[i]? = some t := ⟨_, List.getElem?_eq_getElem hlt⟩
            obtain ⟨u, m, rfl, hq, hz⟩ := HTM.out t (List.mem_of_getElem? ht)
            have HE1 := Aside0.mk ht
            have hu9 : u.size ≤ 1048576 := by omega
            have HQ := Aside0.mk (fun X => implShuffleNumberP d v y u X hv9 hy9 hu9)
            rw [hq] at HQ
            clear ht hq
            obtain ⟨ad, ea⟩ := row_adr (HS.out.reads 5 rfl) hlt
            cases ea
            have hi1 : (0 : Int) ≤ i := by omega
            have hi2 : (i : Int) < sl.length := by omega
            have hmm : (m != m) = false := by simp
            have hmq : (m == m) = true := by simp
            have f1_ := HS.out.c 4 2 (v := .slice (some ad) sl.length e1) rfl rfl
            have f2_ := (HS.out.tmg 5 rfl HE1.out).1
            go_wp2_with (first | (go_at_call 36; refine (HQ.out _).mono ?_; rintro e_ w1 ⟨rfl, hb⟩; replace HS := sB HS hb; clear hb f1_ f2_; have f1_ := HS.out.c 4 2 (v := .slice (some ad) sl.length e1) rfl rfl; have f2_ := (HS.out.tmg 5 rfl HE1.out).2.1; have f3_ := c2 ((HS.out.tmg 5 rfl HE1.out).2.2)))
            go_roundw
            case rel => exact ⟨i + 1, by go_num, by omega, HS⟩
            case measure => simp [intOf]; omega
          · have hlt2 : ¬ ((i : Int) < (sl.length : Int)) := by omega
            have f1_ := HS.out.c 4 2 (v := .slice C1 sl.length e1) rfl rfl
            go_wp2
            go_meet
            case rel => exact sX HS []
      · have hcb : (sc == 0) = false := by simpa using hc0
        clear hc0
        go_wp2_with fail
        go_meet
        case rel => exact sX HS []
    case rest =>
      have HS := hcut
      clear hcut
      go_upto_region 19 with (first | (go_at_call 37; refine (specDrawHalfShuffle A c xs _ (HX.out.old HS.out)).mono ?_; rintro e_ w1 ⟨da, na, Ba, ma, la, db, nb, Bb, mb, lb, rfl, hba, hbb, hoka, hokb, hs⟩; replace HS := sN2 HS hs; clear hs) | ((with_reducible refine gate_dst (N := 16) rfl ?_); refine bxL 26 #[(.int .i64 0), (.int .i64 0), (.slice none 0 0)] HS ?_; clear HS; intro g_a w1 hg_a HS) | ((with_reducible refine gate_dst (N := 17) rfl ?_); refine bxL 26 #[(.int .i64 0), (.int .i64 0), (.slice none 0 0)] HS ?_; clear HS; intro g_b w1 hg_b HS) | ((with_reducible refine gate_store (t := 26) (p := 16) rfl ?_); refine stL HS 1 0 #[.int .i64 da, .int .i64 na, .slice Ba la.length ma] rfl rfl rfl rfl rfl ?_; clear HS; intro w1 HS) | ((with_reducible refine gate_store (t := 26) (p := 17) rfl ?_); refine stL HS 0 0 #[.int .i64 db, .int .i64 nb, .slice Bb lb.length mb] rfl rfl rfl rfl rfl ?_; clear HS; intro w1 HS))
      have HBA := Aside0.mk hoka.1
      have HBB := Aside0.mk hokb.1
      obtain ⟨hd, hn, hl, hc, eh⟩ : ∃ (a b : Int) (l : Ts) (c : Int), halfR da na la db nb lb = (a, b, l, c) := ⟨_, _, _, _, rfl⟩
      have HH_ := Aside0.mk eh
      have hhc : (hc != hc) = false := by simp
      have hhe : (hc == hc) = true := by simp
      have HBH_ := Aside0.mk (half_bnd eh)
      have hhl : hl.length ≤ 1048576 := (bnd_iff.1 HBH_.out).1
      clear eh
      have f1_ := HS.out.c 1 0 (v := .int .i64 da) rfl rfl
      have f2_ := HS.out.c 1 1 (v := .int .i64 na) rfl rfl
      have f3_ := HS.out.c 1 2 (v := .slice Ba la.length ma) rfl rfl
      have f4_ := HS.out.c 0 0 (v := .int .i64 db) rfl rfl
      have f5_ := HS.out.c 0 1 (v := .int .i64 nb) rfl rfl
      have f6_ := HS.out.c 0 2 (v := .slice Bb lb.length mb) rfl rfl
      go_upto_if 167 with (first | (go_at_call 38; refine (got (implHalfShuffle da na Ba ma la db nb Bb mb lb _ (HS.out.reads 2 rfl) (HS.out.cap 2 rfl) HBA.out (HS.out.reads 3 rfl) (HS.out.cap 3 rfl) HBB.out) HH_.out).mono ?_; rintro e_ w1 ⟨C4, e4, rfl, hs⟩; replace HS := sN1 HS hs; clear hs f1_ f2_ f3_ f4_ f5_ f6_) | ((with_reducible refine gate_dst (N := 18) rfl ?_); refine bxL 26 #[(.int .i64 0), (.int .i64 0), (.slice none 0 0)] HS ?_; clear HS; intro g_h1 w1 hg_h1 HS) | ((with_reducible refine gate_store (t := 26) (p := 18) rfl ?_); refine stL HS 0 0 #[.int .i64 hd, .int .i64 hn, .slice C4 hl.length e4] rfl rfl rfl rfl rfl ?_; clear HS; intro w1 HS; have f1_ := HS.out.c 3 0 (v := .int .i64 da) rfl rfl; have f2_ := HS.out.c 3 1 (v := .int .i64 na) rfl rfl; have f3_ := HS.out.c 3 2 (v := .slice Ba la.length ma) rfl rfl; have f4_ := HS.out.c 2 0 (v := .int .i64 db) rfl rfl; have f5_ := HS.out.c 2 1 (v := .int .i64 nb) rfl rfl; have f6_ := HS.out.c 2 2 (v := .slice Bb lb.length mb) rfl rfl) | (go_at_call 39; refine (got (specHalfShuffle da na Ba ma la db nb Bb mb lb _ (HS.out.reads 4 rfl) (HS.out.cap 4 rfl) HBA.out (HS.out.reads 5 rfl) (HS.out.cap 5 rfl) HBB.out) HH_.out).mono ?_; rintro e_ w1 ⟨C5, e5, rfl, hs⟩; replace HS := sN1 HS hs; clear hs f1_ f2_ f3_ f4_ f5_ f6_) | ((with_reducible refine gate_dst (N := 20) rfl ?_); refine bxL 26 #[(.int .i64 0), (.int .i64 0), (.slice none 0 0)] HS ?_; clear HS; intro g_h2 w1 hg_h2 HS) | ((with_reducible refine gate_store (t := 26) (p := 20) rfl ?_); refine stL HS 0 0 #[.int .i64 hd, .int .i64 hn, .slice C5 hl.length e5] rfl rfl rfl rfl rfl ?_; clear HS; intro w1 HS; have f1_ := HS.out.c 2 0 (v := .int .i64 hd) rfl rfl; have f2_ := HS.out.c 2 1 (v := .int .i64 hn) rfl rfl; have f3_ := HS.out.c 2 2 (v := .slice C4 hl.length e4) rfl rfl; have f4_ := HS.out.c 0 0 (v := .int .i64 hd) rfl rfl; have f5_ := HS.out.c 0 1 (v := .int .i64 hn) rfl rfl; have f6_ := HS.out.c 0 2 (v := .slice C5 hl.length e5) rfl rfl) | (go_at_call 35; refine (lawSeries5 hd hn C4 C5 e4 e5 hl _ (HS.out.reads 3 rfl) (HS.out.reads 1 rfl) hhl).mono ?_; rintro e_ w1 ⟨rfl, hb⟩; replace HS := sB HS hb; clear hb f1_ f2_ f3_ f4_ f5_ f6_))
      go_cut [] from 155 to 229 (fun w' => Aside0 (Mod w w' No []))
      case first =>
        by_cases hc0 : hc = 0
        · have hcb : (hc == 0) = true := by rw [hc0]; rfl
          obtain ⟨hA, hB, rfl, rfl⟩ := twoR_zero (by rw [← hc0]; exact HH_.out)
          have HPA := Aside0.mk (put_noC hA)
          have HPB := Aside0.mk (put_noC hB)
          have HFA := Aside0.mk (isS_bnd' (noC_isS hA))
          have HFB := Aside0.mk (isS_bnd' (noC_isS hB))
          have HAD := Aside0.mk (fun (a1 b1 a2 b2 a3 b3 : Int) (l1 l2 l3 : Ts) k1 k2 k3 => halves_R hA hB (a1 := a1) (b1 := b1) (a2 := a2) (b2 := b2) (a3 := a3) (b3 := b3) (l1 := l1) (l2 := l2) (l3 := l3) k1 k2 k3)
          obtain ⟨fa, efa⟩ : ∃ z, z = noC da na la := ⟨_, rfl⟩
          obtain ⟨fb, efb⟩ : ∃ z, z = noC da na lb := ⟨_, rfl⟩
          rw [← efa] at HPA HFA HAD
          rw [← efb] at HPB HFB HAD
          clear hA hB efa efb hc0
          obtain ⟨pd, pn, pl, pc, ep⟩ : ∃ (a b : Int) (l : Ts) (c : Int), halfR da na fa da na fb = (a, b, l, c) := ⟨_, _, _, _, rfl⟩
          have HP_ := Aside0.mk ep
          have hpc : (pc != pc) = false := by simp
          have hpe : (pc == pc) = true := by simp
          have HBP_ := Aside0.mk (half_bnd ep)
          have hpl : pl.length ≤ 1048576 := (bnd_iff.1 HBP_.out).1
          clear ep
          obtain ⟨qd, qn, ql, qc, eq⟩ : ∃ (a b : Int) (l : Ts) (c : Int), halfR da na fb da na fa = (a, b, l, c) := ⟨_, _, _, _, rfl⟩
          have HQ_ := Aside0.mk eq
          have hqc : (qc != qc) = false := by simp
          have hqe : (qc == qc) = true := by simp
          have HBQ_ := Aside0.mk (half_bnd eq)
          have hql : ql.length ≤ 1048576 := (bnd_iff.1 HBQ_.out).1
          clear eq
          obtain ⟨ud, un, ul, uc, eu⟩ : ∃ (a b : Int) (l : Ts) (c : Int), shuR da na fa da na fb = (a, b, l, c) := ⟨_, _, _, _, rfl⟩
          have HU_ := Aside0.mk eu
          have huc : (uc != uc) = false := by simp
          have hue : (uc == uc) = true := by simp
          have HBU_ := Aside0.mk (shu_bnd eu)
          have hul : ul.length ≤ 1048576 := (bnd_iff.1 HBU_.out).1
          clear eu
          by_cases hp0 : pc = 0
          · skip
            by_cases hq0 : qc = 0
            · skip
              by_cases hu0 : uc = 0
              · have HSUM := Aside0.mk (HAD.out _ _ _ _ _ _ _ _ _ (by rw [← hp0]; exact HP_.out) (by rw [← hq0]; exact HQ_.out) (by rw [← hu0]; exact HU_.out))
                have hpb : (pc == 0) = true := by rw [hp0]; rfl
                have hqb : (qc == 0) = true := by rw [hq0]; rfl
                have hub : (uc == 0) = true := by rw [hu0]; rfl
                clear hp0 hq0 hu0
                have tk1_ : True := trivial
                have tk2_ : True := trivial
                go_wp2_with (first | ((with_reducible refine gate_dst (N := 22) rfl ?_); refine bxL 34 #[(.int .i64 0), (.int .i64 0)] HS ?_; clear HS; intro g_ze w1 hg_ze HS) | ((with_reducible refine gate_store (t := 34) (p := 22) rfl ?_); refine stL HS 0 0 #[(.int .i64 0), (.int .i64 1)] rfl rfl rfl rfl rfl ?_; clear HS; intro w1 HS; have f1_ := HS.out.c 6 0 (v := .int .i64 da) rfl rfl; have f2_ := HS.out.c 6 1 (v := .int .i64 na) rfl rfl; have f3_ := HS.out.c 6 2 (v := .slice Ba la.length ma) rfl rfl; have f4_ := HS.out.c 0 0 (v := (.int .i64 0)) rfl rfl; have f5_ := HS.out.c 0 1 (v := (.int .i64 1)) rfl rfl) | (go_at_call 40; clear tk1_; refine (got (implPutTerm da na Ba ma la eps 0 1 _ (HS.out.reads 7 rfl) (HS.out.cap 7 rfl) HBA.out (by decide)) HPA.out).mono ?_; rintro e_ w1 ⟨C6, e6, rfl, hs⟩; replace HS := sN1 HS hs; clear hs f1_ f2_ f3_ f4_ f5_) | ((with_reducible refine gate_dst (N := 23) rfl ?_); refine bxL 26 #[(.int .i64 0), (.int .i64 0), (.slice none 0 0)] HS ?_; clear HS; intro g_fi w1 hg_fi HS) | ((with_reducible refine gate_store (t := 26) (p := 23) rfl ?_); refine stL HS 0 0 #[.int .i64 da, .int .i64 na, .slice C6 fa.length e6] rfl rfl rfl rfl rfl ?_; clear HS; intro w1 HS; have f1_ := HS.out.c 7 0 (v := .int .i64 da) rfl rfl; have f2_ := HS.out.c 7 1 (v := .int .i64 na) rfl rfl; have f3_ := HS.out.c 7 2 (v := .slice Bb lb.length mb) rfl rfl; have f4_ := HS.out.c 2 0 (v := (.int .i64 0)) rfl rfl; have f5_ := HS.out.c 2 1 (v := (.int .i64 1)) rfl rfl) | (go_at_call 40; refine (got (implPutTerm da na Bb mb lb eps 0 1 _ (HS.out.reads 10 rfl) (HS.out.cap 10 rfl) HBB.out (by decide)) HPB.out).mono ?_; rintro e_ w1 ⟨C7, e7, rfl, hs⟩; replace HS := sN1 HS hs; clear hs f1_ f2_ f3_ f4_ f5_) | ((with_reducible refine gate_dst (N := 25) rfl ?_); refine bxL 26 #[(.int .i64 0), (.int .i64 0), (.slice none 0 0)] HS ?_; clear HS; intro g_se w1 hg_se HS) | ((with_reducible refine gate_store (t := 26) (p := 25) rfl ?_); refine stL HS 0 0 #[.int .i64 da, .int .i64 na, .slice C7 fb.length e7] rfl rfl rfl rfl rfl ?_; clear HS; intro w1 HS; have f1_ := HS.out.c 2 0 (v := .int .i64 da) rfl rfl; have f2_ := HS.out.c 2 1 (v := .int .i64 na) rfl rfl; have f3_ := HS.out.c 2 2 (v := .slice C6 fa.length e6) rfl rfl; have f4_ := HS.out.c 0 0 (v := .int .i64 da) rfl rfl; have f5_ := HS.out.c 0 1 (v := .int .i64 na) rfl rfl; have f6_ := HS.out.c 0 2 (v := .slice C7 fb.length e7) rfl rfl) | (go_at_call 38; clear tk2_; refine (got (implHalfShuffle da na C6 e6 fa da na C7 e7 fb _ (HS.out.reads 3 rfl) (HS.out.cap 3 rfl) HFA.out (HS.out.reads 1 rfl) (HS.out.cap 1 rfl) HFB.out) HP_.out).mono ?_; rintro e_ w1 ⟨C8, e8, rfl, hs⟩; replace HS := sN1 HS hs; clear hs f1_ f2_ f3_ f4_ f5_ f6_) | ((with_reducible refine gate_dst (N := 27) rfl ?_); refine bxL 26 #[(.int .i64 0), (.int .i64 0), (.slice none 0 0)] HS ?_; clear HS; intro g_on w1 hg_on HS) | ((with_reducible refine gate_store (t := 26) (p := 27) rfl ?_); refine stL HS 0 0 #[.int .i64 pd, .int .i64 pn, .slice C8 pl.length e8] rfl rfl rfl rfl rfl ?_; clear HS; intro w1 HS; have f1_ := HS.out.c 2 0 (v := .int .i64 da) rfl rfl; have f2_ := HS.out.c 2 1 (v := .int .i64 na) rfl rfl; have f3_ := HS.out.c 2 2 (v := .slice C7 fb.length e7) rfl rfl; have f4_ := HS.out.c 4 0 (v := .int .i64 da) rfl rfl; have f5_ := HS.out.c 4 1 (v := .int .i64 na) rfl rfl; have f6_ := HS.out.c 4 2 (v := .slice C6 fa.length e6) rfl rfl) | (go_at_call 38; refine (got (implHalfShuffle da na C7 e7 fb da na C6 e6 fa _ (HS.out.reads 3 rfl) (HS.out.cap 3 rfl) HFB.out (HS.out.reads 5 rfl) (HS.out.cap 5 rfl) HFA.out) HQ_.out).mono ?_; rintro e_ w1 ⟨C9, e9, rfl, hs⟩; replace HS := sN1 HS hs; clear hs f1_ f2_ f3_ f4_ f5_ f6_) | ((with_reducible refine gate_dst (N := 29) rfl ?_); refine bxL 26 #[(.int .i64 0), (.int .i64 0), (.slice none 0 0)] HS ?_; clear HS; intro g_ot w1 hg_ot HS) | ((with_reducible refine gate_store (t := 26) (p := 29) rfl ?_); refine stL HS 0 0 #[.int .i64 qd, .int .i64 qn, .slice C9 ql.length e9] rfl rfl rfl rfl rfl ?_; clear HS; intro w1 HS; have f1_ := HS.out.c 6 0 (v := .int .i64 da) rfl rfl; have f2_ := HS.out.c 6 1 (v := .int .i64 na) rfl rfl; have f3_ := HS.out.c 6 2 (v := .slice C6 fa.length e6) rfl rfl; have f4_ := HS.out.c 4 0 (v := .int .i64 da) rfl rfl; have f5_ := HS.out.c 4 1 (v := .int .i64 na) rfl rfl; have f6_ := HS.out.c 4 2 (v := .slice C7 fb.length e7) rfl rfl) | (go_at_call 41; refine (got (implShuffleSeries da na C6 e6 fa da na C7 e7 fb _ (HS.out.reads 7 rfl) (HS.out.cap 7 rfl) HFA.out (HS.out.reads 5 rfl) (HS.out.cap 5 rfl) HFB.out) HU_.out).mono ?_; rintro e_ w1 ⟨C10, e10, rfl, hs⟩; replace HS := sN1 HS hs; clear hs f1_ f2_ f3_ f4_ f5_ f6_) | ((with_reducible refine gate_dst (N := 31) rfl ?_); refine bxL 26 #[(.int .i64 0), (.int .i64 0), (.slice none 0 0)] HS ?_; clear HS; intro g_wh w1 hg_wh HS) | ((with_reducible refine gate_store (t := 26) (p := 31) rfl ?_); refine stL HS 0 0 #[.int .i64 ud, .int .i64 un, .slice C10 ul.length e10] rfl rfl rfl rfl rfl ?_; clear HS; intro w1 HS; have f1_ := HS.out.c 4 0 (v := .int .i64 pd) rfl rfl; have f2_ := HS.out.c 4 1 (v := .int .i64 pn) rfl rfl; have f3_ := HS.out.c 4 2 (v := .slice C8 pl.length e8) rfl rfl; have f4_ := HS.out.c 2 0 (v := .int .i64 qd) rfl rfl; have f5_ := HS.out.c 2 1 (v := .int .i64 qn) rfl rfl; have f6_ := HS.out.c 2 2 (v := .slice C9 ql.length e9) rfl rfl) | (go_at_call 42; refine (got (implAddSeries pd pn C8 e8 pl qd qn C9 e9 ql _ (HS.out.reads 5 rfl) (HS.out.cap 5 rfl) HBP_.out (HS.out.reads 3 rfl) (HS.out.cap 3 rfl) HBQ_.out) HSUM.out).mono ?_; rintro e_ w1 ⟨C11, e11, rfl, hs⟩; replace HS := sN1 HS hs; clear hs f1_ f2_ f3_ f4_ f5_ f6_) | ((with_reducible refine gate_dst (N := 33) rfl ?_); refine bxL 26 #[(.int .i64 0), (.int .i64 0), (.slice none 0 0)] HS ?_; clear HS; intro g_bo w1 hg_bo HS) | ((with_reducible refine gate_store (t := 26) (p := 33) rfl ?_); refine stL HS 0 0 #[.int .i64 ud, .int .i64 un, .slice C11 ul.length e11] rfl rfl rfl rfl rfl ?_; clear HS; intro w1 HS; have f1_ := HS.out.c 0 0 (v := .int .i64 ud) rfl rfl; have f2_ := HS.out.c 0 1 (v := .int .i64 un) rfl rfl; have f3_ := HS.out.c 0 2 (v := .slice C11 ul.length e11) rfl rfl; have f4_ := HS.out.c 2 0 (v := .int .i64 ud) rfl rfl; have f5_ := HS.out.c 2 1 (v := .int .i64 un) rfl rfl; have f6_ := HS.out.c 2 2 (v := .slice C10 ul.length e10) rfl rfl) | (go_at_call 35; refine (lawSeries5 ud un C11 C10 e11 e10 ul _ (HS.out.reads 1 rfl) (HS.out.reads 3 rfl) hul).mono ?_; rintro e_ w1 ⟨rfl, hb⟩; replace HS := sB HS hb; clear hb f1_ f2_ f3_ f4_ f5_ f6_))
                go_meet
                case rel => exact sX HS []
              · skip
                have hpb : (pc == 0) = true := by rw [hp0]; rfl
                have hqb : (qc == 0) = true := by rw [hq0]; rfl
                have hub : (uc == 0) = false := by simpa using hu0
                clear hp0 hq0 hu0
                have tk3_ : True := trivial
                have tk4_ : True := trivial
                go_wp2_with (first | ((with_reducible refine gate_dst (N := 22) rfl ?_); refine bxL 34 #[(.int .i64 0), (.int .i64 0)] HS ?_; clear HS; intro g_ze w1 hg_ze HS) | ((with_reducible refine gate_store (t := 34) (p := 22) rfl ?_); refine stL HS 0 0 #[(.int .i64 0), (.int .i64 1)] rfl rfl rfl rfl rfl ?_; clear HS; intro w1 HS; have f1_ := HS.out.c 6 0 (v := .int .i64 da) rfl rfl; have f2_ := HS.out.c 6 1 (v := .int .i64 na) rfl rfl; have f3_ := HS.out.c 6 2 (v := .slice Ba la.length ma) rfl rfl; have f4_ := HS.out.c 0 0 (v := (.int .i64 0)) rfl rfl; have f5_ := HS.out.c 0 1 (v := (.int .i64 1)) rfl rfl) | (go_at_call 40; clear tk3_; refine (got (implPutTerm da na Ba ma la eps 0 1 _ (HS.out.reads 7 rfl) (HS.out.cap 7 rfl) HBA.out (by decide)) HPA.out).mono ?_; rintro e_ w1 ⟨C12, e12, rfl, hs⟩; replace HS := sN1 HS hs; clear hs f1_ f2_ f3_ f4_ f5_) | ((with_reducible refine gate_dst (N := 23) rfl ?_); refine bxL 26 #[(.int .i64 0), (.int .i64 0), (.slice none 0 0)] HS ?_; clear HS; intro g_fi w1 hg_fi HS) | ((with_reducible refine gate_store (t := 26) (p := 23) rfl ?_); refine stL HS 0 0 #[.int .i64 da, .int .i64 na, .slice C12 fa.length e12] rfl rfl rfl rfl rfl ?_; clear HS; intro w1 HS; have f1_ := HS.out.c 7 0 (v := .int .i64 da) rfl rfl; have f2_ := HS.out.c 7 1 (v := .int .i64 na) rfl rfl; have f3_ := HS.out.c 7 2 (v := .slice Bb lb.length mb) rfl rfl; have f4_ := HS.out.c 2 0 (v := (.int .i64 0)) rfl rfl; have f5_ := HS.out.c 2 1 (v := (.int .i64 1)) rfl rfl) | (go_at_call 40; refine (got (implPutTerm da na Bb mb lb eps 0 1 _ (HS.out.reads 10 rfl) (HS.out.cap 10 rfl) HBB.out (by decide)) HPB.out).mono ?_; rintro e_ w1 ⟨C13, e13, rfl, hs⟩; replace HS := sN1 HS hs; clear hs f1_ f2_ f3_ f4_ f5_) | ((with_reducible refine gate_dst (N := 25) rfl ?_); refine bxL 26 #[(.int .i64 0), (.int .i64 0), (.slice none 0 0)] HS ?_; clear HS; intro g_se w1 hg_se HS) | ((with_reducible refine gate_store (t := 26) (p := 25) rfl ?_); refine stL HS 0 0 #[.int .i64 da, .int .i64 na, .slice C13 fb.length e13] rfl rfl rfl rfl rfl ?_; clear HS; intro w1 HS; have f1_ := HS.out.c 2 0 (v := .int .i64 da) rfl rfl; have f2_ := HS.out.c 2 1 (v := .int .i64 na) rfl rfl; have f3_ := HS.out.c 2 2 (v := .slice C12 fa.length e12) rfl rfl; have f4_ := HS.out.c 0 0 (v := .int .i64 da) rfl rfl; have f5_ := HS.out.c 0 1 (v := .int .i64 na) rfl rfl; have f6_ := HS.out.c 0 2 (v := .slice C13 fb.length e13) rfl rfl) | (go_at_call 38; clear tk4_; refine (got (implHalfShuffle da na C12 e12 fa da na C13 e13 fb _ (HS.out.reads 3 rfl) (HS.out.cap 3 rfl) HFA.out (HS.out.reads 1 rfl) (HS.out.cap 1 rfl) HFB.out) HP_.out).mono ?_; rintro e_ w1 ⟨C14, e14, rfl, hs⟩; replace HS := sN1 HS hs; clear hs f1_ f2_ f3_ f4_ f5_ f6_) | ((with_reducible refine gate_dst (N := 27) rfl ?_); refine bxL 26 #[(.int .i64 0), (.int .i64 0), (.slice none 0 0)] HS ?_; clear HS; intro g_on w1 hg_on HS) | ((with_reducible refine gate_store (t := 26) (p := 27) rfl ?_); refine stL HS 0 0 #[.int .i64 pd, .int .i64 pn, .slice C14 pl.length e14] rfl rfl rfl rfl rfl ?_; clear HS; intro w1 HS; have f1_ := HS.out.c 2 0 (v := .int .i64 da) rfl rfl; have f2_ := HS.out.c 2 1 (v := .int .i64 na) rfl rfl; have f3_ := HS.out.c 2 2 (v := .slice C13 fb.length e13) rfl rfl; have f4_ := HS.out.c 4 0 (v := .int .i64 da) rfl rfl; have f5_ := HS.out.c 4 1 (v := .int .i64 na) rfl rfl; have f6_ := HS.out.c 4 2 (v := .slice C12 fa.length e12) rfl rfl) | (go_at_call 38; refine (got (implHalfShuffle da na C13 e13 fb da na C12 e12 fa _ (HS.out.reads 3 rfl) (HS.out.cap 3 rfl) HFB.out (HS.out.reads 5 rfl) (HS.out.cap 5 rfl) HFA.out) HQ_.out).mono ?_; rintro e_ w1 ⟨C15, e15, rfl, hs⟩; replace HS := sN1 HS hs; clear hs f1_ f2_ f3_ f4_ f5_ f6_) | ((with_reducible refine gate_dst (N := 29) rfl ?_); refine bxL 26 #[(.int .i64 0), (.int .i64 0), (.slice none 0 0)] HS ?_; clear HS; intro g_ot w1 hg_ot HS) | ((with_reducible refine gate_store (t := 26) (p := 29) rfl ?_); refine stL HS 0 0 #[.int .i64 qd, .int .i64 qn, .slice C15 ql.length e15] rfl rfl rfl rfl rfl ?_; clear HS; intro w1 HS; have f1_ := HS.out.c 6 0 (v := .int .i64 da) rfl rfl; have f2_ := HS.out.c 6 1 (v := .int .i64 na) rfl rfl; have f3_ := HS.out.c 6 2 (v := .slice C12 fa.length e12) rfl rfl; have f4_ := HS.out.c 4 0 (v := .int .i64 da) rfl rfl; have f5_ := HS.out.c 4 1 (v := .int .i64 na) rfl rfl; have f6_ := HS.out.c 4 2 (v := .slice C13 fb.length e13) rfl rfl) | (go_at_call 41; refine (got (implShuffleSeries da na C12 e12 fa da na C13 e13 fb _ (HS.out.reads 7 rfl) (HS.out.cap 7 rfl) HFA.out (HS.out.reads 5 rfl) (HS.out.cap 5 rfl) HFB.out) HU_.out).mono ?_; rintro e_ w1 ⟨C16, e16, rfl, hs⟩; replace HS := sN1 HS hs; clear hs f1_ f2_ f3_ f4_ f5_ f6_) | ((with_reducible refine gate_dst (N := 31) rfl ?_); refine bxL 26 #[(.int .i64 0), (.int .i64 0), (.slice none 0 0)] HS ?_; clear HS; intro g_wh w1 hg_wh HS) | ((with_reducible refine gate_store (t := 26) (p := 31) rfl ?_); refine stL HS 0 0 #[.int .i64 ud, .int .i64 un, .slice C16 ul.length e16] rfl rfl rfl rfl rfl ?_; clear HS; intro w1 HS))
                go_meet
                case rel => exact sX HS []
            · skip
              have hpb : (pc == 0) = true := by rw [hp0]; rfl
              have hqb : (qc == 0) = false := by simpa using hq0
              clear hp0 hq0
              have tk5_ : True := trivial
              have tk6_ : True := trivial
              go_wp2_with (first | ((with_reducible refine gate_dst (N := 22) rfl ?_); refine bxL 34 #[(.int .i64 0), (.int .i64 0)] HS ?_; clear HS; intro g_ze w1 hg_ze HS) | ((with_reducible refine gate_store (t := 34) (p := 22) rfl ?_); refine stL HS 0 0 #[(.int .i64 0), (.int .i64 1)] rfl rfl rfl rfl rfl ?_; clear HS; intro w1 HS; have f1_ := HS.out.c 6 0 (v := .int .i64 da) rfl rfl; have f2_ := HS.out.c 6 1 (v := .int .i64 na) rfl rfl; have f3_ := HS.out.c 6 2 (v := .slice Ba la.length ma) rfl rfl; have f4_ := HS.out.c 0 0 (v := (.int .i64 0)) rfl rfl; have f5_ := HS.out.c 0 1 (v := (.int .i64 1)) rfl rfl) | (go_at_call 40; clear tk5_; refine (got (implPutTerm da na Ba ma la eps 0 1 _ (HS.out.reads 7 rfl) (HS.out.cap 7 rfl) HBA.out (by decide)) HPA.out).mono ?_; rintro e_ w1 ⟨C17, e17, rfl, hs⟩; replace HS := sN1 HS hs; clear hs f1_ f2_ f3_ f4_ f5_) | ((with_reducible refine gate_dst (N := 23) rfl ?_); refine bxL 26 #[(.int .i64 0), (.int .i64 0), (.slice none 0 0)] HS ?_; clear HS; intro g_fi w1 hg_fi HS) | ((with_reducible refine gate_store (t := 26) (p := 23) rfl ?_); refine stL HS 0 0 #[.int .i64 da, .int .i64 na, .slice C17 fa.length e17] rfl rfl rfl rfl rfl ?_; clear HS; intro w1 HS; have f1_ := HS.out.c 7 0 (v := .int .i64 da) rfl rfl; have f2_ := HS.out.c 7 1 (v := .int .i64 na) rfl rfl; have f3_ := HS.out.c 7 2 (v := .slice Bb lb.length mb) rfl rfl; have f4_ := HS.out.c 2 0 (v := (.int .i64 0)) rfl rfl; have f5_ := HS.out.c 2 1 (v := (.int .i64 1)) rfl rfl) | (go_at_call 40; refine (got (implPutTerm da na Bb mb lb eps 0 1 _ (HS.out.reads 10 rfl) (HS.out.cap 10 rfl) HBB.out (by decide)) HPB.out).mono ?_; rintro e_ w1 ⟨C18, e18, rfl, hs⟩; replace HS := sN1 HS hs; clear hs f1_ f2_ f3_ f4_ f5_) | ((with_reducible refine gate_dst (N := 25) rfl ?_); refine bxL 26 #[(.int .i64 0), (.int .i64 0), (.slice none 0 0)] HS ?_; clear HS; intro g_se w1 hg_se HS) | ((with_reducible refine gate_store (t := 26) (p := 25) rfl ?_); refine stL HS 0 0 #[.int .i64 da, .int .i64 na, .slice C18 fb.length e18] rfl rfl rfl rfl rfl ?_; clear HS; intro w1 HS; have f1_ := HS.out.c 2 0 (v := .int .i64 da) rfl rfl; have f2_ := HS.out.c 2 1 (v := .int .i64 na) rfl rfl; have f3_ := HS.out.c 2 2 (v := .slice C17 fa.length e17) rfl rfl; have f4_ := HS.out.c 0 0 (v := .int .i64 da) rfl rfl; have f5_ := HS.out.c 0 1 (v := .int .i64 na) rfl rfl; have f6_ := HS.out.c 0 2 (v := .slice C18 fb.length e18) rfl rfl) | (go_at_call 38; clear tk6_; refine (got (implHalfShuffle da na C17 e17 fa da na C18 e18 fb _ (HS.out.reads 3 rfl) (HS.out.cap 3 rfl) HFA.out (HS.out.reads 1 rfl) (HS.out.cap 1 rfl) HFB.out) HP_.out).mono ?_; rintro e_ w1 ⟨C19, e19, rfl, hs⟩; replace HS := sN1 HS hs; clear hs f1_ f2_ f3_ f4_ f5_ f6_) | ((with_reducible refine gate_dst (N := 27) rfl ?_); refine bxL 26 #[(.int .i64 0), (.int .i64 0), (.slice none 0 0)] HS ?_; clear HS; intro g_on w1 hg_on HS) | ((with_reducible refine gate_store (t := 26) (p := 27) rfl ?_); refine stL HS 0 0 #[.int .i64 pd, .int .i64 pn, .slice C19 pl.length e19] rfl rfl rfl rfl rfl ?_; clear HS; intro w1 HS; have f1_ := HS.out.c 2 0 (v := .int .i64 da) rfl rfl; have f2_ := HS.out.c 2 1 (v := .int .i64 na) rfl rfl; have f3_ := HS.out.c 2 2 (v := .slice C18 fb.length e18) rfl rfl; have f4_ := HS.out.c 4 0 (v := .int .i64 da) rfl rfl; have f5_ := HS.out.c 4 1 (v := .int .i64 na) rfl rfl; have f6_ := HS.out.c 4 2 (v := .slice C17 fa.length e17) rfl rfl) | (go_at_call 38; refine (got (implHalfShuffle da na C18 e18 fb da na C17 e17 fa _ (HS.out.reads 3 rfl) (HS.out.cap 3 rfl) HFB.out (HS.out.reads 5 rfl) (HS.out.cap 5 rfl) HFA.out) HQ_.out).mono ?_; rintro e_ w1 ⟨C20, e20, rfl, hs⟩; replace HS := sN1 HS hs; clear hs f1_ f2_ f3_ f4_ f5_ f6_) | ((with_reducible refine gate_dst (N := 29) rfl ?_); refine bxL 26 #[(.int .i64 0), (.int .i64 0), (.slice none 0 0)] HS ?_; clear HS; intro g_ot w1 hg_ot HS) | ((with_reducible refine gate_store (t := 26) (p := 29) rfl ?_); refine stL HS 0 0 #[.int .i64 qd, .int .i64 qn, .slice C20 ql.length e20] rfl rfl rfl rfl rfl ?_; clear HS; intro w1 HS; have f1_ := HS.out.c 6 0 (v := .int .i64 da) rfl rfl; have f2_ := HS.out.c 6 1 (v := .int .i64 na) rfl rfl; have f3_ := HS.out.c 6 2 (v := .slice C17 fa.length e17) rfl rfl; have f4_ := HS.out.c 4 0 (v := .int .i64 da) rfl rfl; have f5_ := HS.out.c 4 1 (v := .int .i64 na) rfl rfl; have f6_ := HS.out.c 4 2 (v := .slice C18 fb.length e18) rfl rfl) | (go_at_call 41; refine (got (implShuffleSeries da na C17 e17 fa da na C18 e18 fb _ (HS.out.reads 7 rfl) (HS.out.cap 7 rfl) HFA.out (HS.out.reads 5 rfl) (HS.out.cap 5 rfl) HFB.out) HU_.out).mono ?_; rintro e_ w1 ⟨C21, e21, rfl, hs⟩; replace HS := sN1 HS hs; clear hs f1_ f2_ f3_ f4_ f5_ f6_) | ((with_reducible refine gate_dst (N := 31) rfl ?_); refine bxL 26 #[(.int .i64 0), (.int .i64 0), (.slice none 0 0)] HS ?_; clear HS; intro g_wh w1 hg_wh HS) | ((with_reducible refine gate_store (t := 26) (p := 31) rfl ?_); refine stL HS 0 0 #[.int .i64 ud, .int .i64 un, .slice C21 ul.length e21] rfl rfl rfl rfl rfl ?_; clear HS; intro w1 HS))
              go_meet
              case rel => exact sX HS []
          · skip
            have hpb : (pc == 0) = false := by simpa using hp0
            clear hp0
            have tk7_ : True := trivial
            have tk8_ : True := trivial
            go_wp2_with (first | ((with_reducible refine gate_dst (N := 22) rfl ?_); refine bxL 34 #[(.int .i64 0), (.int .i64 0)] HS ?_; clear HS; intro g_ze w1 hg_ze HS) | ((with_reducible refine gate_store (t := 34) (p := 22) rfl ?_); refine stL HS 0 0 #[(.int .i64 0), (.int .i64 1)] rfl rfl rfl rfl rfl ?_; clear HS; intro w1 HS; have f1_ := HS.out.c 6 0 (v := .int .i64 da) rfl rfl; have f2_ := HS.out.c 6 1 (v := .int .i64 na) rfl rfl; have f3_ := HS.out.c 6 2 (v := .slice Ba la.length ma) rfl rfl; have f4_ := HS.out.c 0 0 (v := (.int .i64 0)) rfl rfl; have f5_ := HS.out.c 0 1 (v := (.int .i64 1)) rfl rfl) | (go_at_call 40; clear tk7_; refine (got (implPutTerm da na Ba ma la eps 0 1 _ (HS.out.reads 7 rfl) (HS.out.cap 7 rfl) HBA.out (by decide)) HPA.out).mono ?_; rintro e_ w1 ⟨C22, e22, rfl, hs⟩; replace HS := sN1 HS hs; clear hs f1_ f2_ f3_ f4_ f5_) | ((with_reducible refine gate_dst (N := 23) rfl ?_); refine bxL 26 #[(.int .i64 0), (.int .i64 0), (.slice none 0 0)] HS ?_; clear HS; intro g_fi w1 hg_fi HS) | ((with_reducible refine gate_store (t := 26) (p := 23) rfl ?_); refine stL HS 0 0 #[.int .i64 da, .int .i64 na, .slice C22 fa.length e22] rfl rfl rfl rfl rfl ?_; clear HS; intro w1 HS; have f1_ := HS.out.c 7 0 (v := .int .i64 da) rfl rfl; have f2_ := HS.out.c 7 1 (v := .int .i64 na) rfl rfl; have f3_ := HS.out.c 7 2 (v := .slice Bb lb.length mb) rfl rfl; have f4_ := HS.out.c 2 0 (v := (.int .i64 0)) rfl rfl; have f5_ := HS.out.c 2 1 (v := (.int .i64 1)) rfl rfl) | (go_at_call 40; refine (got (implPutTerm da na Bb mb lb eps 0 1 _ (HS.out.reads 10 rfl) (HS.out.cap 10 rfl) HBB.out (by decide)) HPB.out).mono ?_; rintro e_ w1 ⟨C23, e23, rfl, hs⟩; replace HS := sN1 HS hs; clear hs f1_ f2_ f3_ f4_ f5_) | ((with_reducible refine gate_dst (N := 25) rfl ?_); refine bxL 26 #[(.int .i64 0), (.int .i64 0), (.slice none 0 0)] HS ?_; clear HS; intro g_se w1 hg_se HS) | ((with_reducible refine gate_store (t := 26) (p := 25) rfl ?_); refine stL HS 0 0 #[.int .i64 da, .int .i64 na, .slice C23 fb.length e23] rfl rfl rfl rfl rfl ?_; clear HS; intro w1 HS; have f1_ := HS.out.c 2 0 (v := .int .i64 da) rfl rfl; have f2_ := HS.out.c 2 1 (v := .int .i64 na) rfl rfl; have f3_ := HS.out.c 2 2 (v := .slice C22 fa.length e22) rfl rfl; have f4_ := HS.out.c 0 0 (v := .int .i64 da) rfl rfl; have f5_ := HS.out.c 0 1 (v := .int .i64 na) rfl rfl; have f6_ := HS.out.c 0 2 (v := .slice C23 fb.length e23) rfl rfl) | (go_at_call 38; clear tk8_; refine (got (implHalfShuffle da na C22 e22 fa da na C23 e23 fb _ (HS.out.reads 3 rfl) (HS.out.cap 3 rfl) HFA.out (HS.out.reads 1 rfl) (HS.out.cap 1 rfl) HFB.out) HP_.out).mono ?_; rintro e_ w1 ⟨C24, e24, rfl, hs⟩; replace HS := sN1 HS hs; clear hs f1_ f2_ f3_ f4_ f5_ f6_) | ((with_reducible refine gate_dst (N := 27) rfl ?_); refine bxL 26 #[(.int .i64 0), (.int .i64 0), (.slice none 0 0)] HS ?_; clear HS; intro g_on w1 hg_on HS) | ((with_reducible refine gate_store (t := 26) (p := 27) rfl ?_); refine stL HS 0 0 #[.int .i64 pd, .int .i64 pn, .slice C24 pl.length e24] rfl rfl rfl rfl rfl ?_; clear HS; intro w1 HS; have f1_ := HS.out.c 2 0 (v := .int .i64 da) rfl rfl; have f2_ := HS.out.c 2 1 (v := .int .i64 na) rfl rfl; have f3_ := HS.out.c 2 2 (v := .slice C23 fb.length e23) rfl rfl; have f4_ := HS.out.c 4 0 (v := .int .i64 da) rfl rfl; have f5_ := HS.out.c 4 1 (v := .int .i64 na) rfl rfl; have f6_ := HS.out.c 4 2 (v := .slice C22 fa.length e22) rfl rfl) | (go_at_call 38; refine (got (implHalfShuffle da na C23 e23 fb da na C22 e22 fa _ (HS.out.reads 3 rfl) (HS.out.cap 3 rfl) HFB.out (HS.out.reads 5 rfl) (HS.out.cap 5 rfl) HFA.out) HQ_.out).mono ?_; rintro e_ w1 ⟨C25, e25, rfl, hs⟩; replace HS := sN1 HS hs; clear hs f1_ f2_ f3_ f4_ f5_ f6_) | ((with_reducible refine gate_dst (N := 29) rfl ?_); refine bxL 26 #[(.int .i64 0), (.int .i64 0), (.slice none 0 0)] HS ?_; clear HS; intro g_ot w1 hg_ot HS) | ((with_reducible refine gate_store (t := 26) (p := 29) rfl ?_); refine stL HS 0 0 #[.int .i64 qd, .int .i64 qn, .slice C25 ql.length e25] rfl rfl rfl rfl rfl ?_; clear HS; intro w1 HS; have f1_ := HS.out.c 6 0 (v := .int .i64 da) rfl rfl; have f2_ := HS.out.c 6 1 (v := .int .i64 na) rfl rfl; have f3_ := HS.out.c 6 2 (v := .slice C22 fa.length e22) rfl rfl; have f4_ := HS.out.c 4 0 (v := .int .i64 da) rfl rfl; have f5_ := HS.out.c 4 1 (v := .int .i64 na) rfl rfl; have f6_ := HS.out.c 4 2 (v := .slice C23 fb.length e23) rfl rfl) | (go_at_call 41; refine (got (implShuffleSeries da na C22 e22 fa da na C23 e23 fb _ (HS.out.reads 7 rfl) (HS.out.cap 7 rfl) HFA.out (HS.out.reads 5 rfl) (HS.out.cap 5 rfl) HFB.out) HU_.out).mono ?_; rintro e_ w1 ⟨C26, e26, rfl, hs⟩; replace HS := sN1 HS hs; clear hs f1_ f2_ f3_ f4_ f5_ f6_) | ((with_reducible refine gate_dst (N := 31) rfl ?_); refine bxL 26 #[(.int .i64 0), (.int .i64 0), (.slice none 0 0)] HS ?_; clear HS; intro g_wh w1 hg_wh HS) | ((with_reducible refine gate_store (t := 26) (p := 31) rfl ?_); refine stL HS 0 0 #[.int .i64 ud, .int .i64 un, .slice C26 ul.length e26] rfl rfl rfl rfl rfl ?_; clear HS; intro w1 HS))
            go_meet
            case rel => exact sX HS []
        · have hcb : (hc == 0) = false := by simpa using hc0
          clear hc0
          go_wp2_with fail
          go_meet
          case rel => exact sX HS []
      case rest =>
        have HS := hcut
        clear hcut
        go_upto_region 37 with (first | (go_at_call 43; refine (specDrawShuffleSeries A c xs _ (HX.out.old HS.out)).mono ?_; rintro e_ w1 ⟨di, ni, Bi, mi, li, dj, nj, Bj, mj, lj, rfl, hbi, hbj, hoki, hokj, hs⟩; replace HS := sN2 HS hs; clear hs) | ((with_reducible refine gate_dst (N := 35) rfl ?_); refine bxL 26 #[(.int .i64 0), (.int .i64 0), (.slice none 0 0)] HS ?_; clear HS; intro g_ya w1 hg_ya HS) | ((with_reducible refine gate_dst (N := 36) rfl ?_); refine bxL 26 #[(.int .i64 0), (.int .i64 0), (.slice none 0 0)] HS ?_; clear HS; intro g_yb w1 hg_yb HS) | ((with_reducible refine gate_store (t := 26) (p := 35) rfl ?_); refine stL HS 1 0 #[.int .i64 di, .int .i64 ni, .slice Bi li.length mi] rfl rfl rfl rfl rfl ?_; clear HS; intro w1 HS) | ((with_reducible refine gate_store (t := 26) (p := 36) rfl ?_); refine stL HS 0 0 #[.int .i64 dj, .int .i64 nj, .slice Bj lj.length mj] rfl rfl rfl rfl rfl ?_; clear HS; intro w1 HS))
        have HBI := Aside0.mk hoki.1
        have HBJ := Aside0.mk hokj.1
        obtain ⟨kd, kn, kl, kc, ek⟩ : ∃ (a b : Int) (l : Ts) (c : Int), shuR di ni li dj nj lj = (a, b, l, c) := ⟨_, _, _, _, rfl⟩
        have HK_ := Aside0.mk ek
        have hkc : (kc != kc) = false := by simp
        have hke : (kc == kc) = true := by simp
        have HBK_ := Aside0.mk (shu_bnd ek)
        have hkl : kl.length ≤ 1048576 := (bnd_iff.1 HBK_.out).1
        clear ek
        have f1_ := HS.out.c 1 0 (v := .int .i64 di) rfl rfl
        have f2_ := HS.out.c 1 1 (v := .int .i64 ni) rfl rfl
        have f3_ := HS.out.c 1 2 (v := .slice Bi li.length mi) rfl rfl
        have f4_ := HS.out.c 0 0 (v := .int .i64 dj) rfl rfl
        have f5_ := HS.out.c 0 1 (v := .int .i64 nj) rfl rfl
        have f6_ := HS.out.c 0 2 (v := .slice Bj lj.length mj) rfl rfl
        go_upto_region 40 with (first | (go_at_call 41; refine (got (implShuffleSeries di ni Bi mi li dj nj Bj mj lj _ (HS.out.reads 2 rfl) (HS.out.cap 2 rfl) HBI.out (HS.out.reads 3 rfl) (HS.out.cap 3 rfl) HBJ.out) HK_.out).mono ?_; rintro e_ w1 ⟨C27, e27, rfl, hs⟩; replace HS := sN1 HS hs; clear hs f1_ f2_ f3_ f4_ f5_ f6_) | ((with_reducible refine gate_dst (N := 37) rfl ?_); refine bxL 26 #[(.int .i64 0), (.int .i64 0), (.slice none 0 0)] HS ?_; clear HS; intro g_sa w1 hg_sa HS) | ((with_reducible refine gate_store (t := 26) (p := 37) rfl ?_); refine stL HS 0 0 #[.int .i64 kd, .int .i64 kn, .slice C27 kl.length e27] rfl rfl rfl rfl rfl ?_; clear HS; intro w1 HS; have f1_ := HS.out.c 3 0 (v := .int .i64 di) rfl rfl; have f2_ := HS.out.c 3 1 (v := .int .i64 ni) rfl rfl; have f3_ := HS.out.c 3 2 (v := .slice Bi li.length mi) rfl rfl; have f4_ := HS.out.c 2 0 (v := .int .i64 dj) rfl rfl; have f5_ := HS.out.c 2 1 (v := .int .i64 nj) rfl rfl; have f6_ := HS.out.c 2 2 (v := .slice Bj lj.length mj) rfl rfl) | (go_at_call 44; refine (got (specShuffleSeries di ni Bi mi li dj nj Bj mj lj _ (HS.out.reads 4 rfl) (HS.out.cap 4 rfl) HBI.out (HS.out.reads 5 rfl) (HS.out.cap 5 rfl) HBJ.out) HK_.out).mono ?_; rintro e_ w1 ⟨C28, e28, rfl, hs⟩; replace HS := sN1 HS hs; clear hs f1_ f2_ f3_ f4_ f5_ f6_) | ((with_reducible refine gate_dst (N := 39) rfl ?_); refine bxL 26 #[(.int .i64 0), (.int .i64 0), (.slice none 0 0)] HS ?_; clear HS; intro g_sb w1 hg_sb HS) | ((with_reducible refine gate_store (t := 26) (p := 39) rfl ?_); refine stL HS 0 0 #[.int .i64 kd, .int .i64 kn, .slice C28 kl.length e28] rfl rfl rfl rfl rfl ?_; clear HS; intro w1 HS) | (go_at_call 45; refine (specDrawShufflePower A c xs _ (HX.out.old HS.out)).mono ?_; rintro e_ w1 ⟨de, ne, Be, me, le, ke, rfl, hbe, hoke, hke, hs⟩; replace HS := sN1 HS hs; clear hs) | ((with_reducible refine gate_dst (N := 41) rfl ?_); refine bxL 26 #[(.int .i64 0), (.int .i64 0), (.slice none 0 0)] HS ?_; clear HS; intro g_e w1 hg_e HS) | ((with_reducible refine gate_store (t := 26) (p := 41) rfl ?_); refine stL HS 0 0 #[.int .i64 de, .int .i64 ne, .slice Be le.length me] rfl rfl rfl rfl rfl ?_; clear HS; intro w1 HS))
        have HBE := Aside0.mk hoke.1
        obtain ⟨wd, wn, wl, wc, ew⟩ : ∃ (a b : Int) (l : Ts) (c : Int), shpR de ne le ke = (a, b, l, c) := ⟨_, _, _, _, rfl⟩
        have HW_ := Aside0.mk ew
        have hwc : (wc != wc) = false := by simp
        have hwe : (wc == wc) = true := by simp
        have hwl : wl.length ≤ 1048576 := by have h := shp_len (d := de) (n := ne) (l := le) (k := ke); rw [ew] at h; exact h
        clear ew
        have f1_ := HS.out.c 0 0 (v := .int .i64 de) rfl rfl
        have f2_ := HS.out.c 0 1 (v := .int .i64 ne) rfl rfl
        have f3_ := HS.out.c 0 2 (v := .slice Be le.length me) rfl rfl
        go_upto_region 43 with (first | (go_at_call 46; refine (got (implShufflePower de ne Be me le ke _ (HS.out.reads 1 rfl) (HS.out.cap 1 rfl) HBE.out) HW_.out).mono ?_; rintro e_ w1 ⟨C29, e29, rfl, hs⟩; replace HS := sN1 HS hs; clear hs f1_ f2_ f3_) | ((with_reducible refine gate_dst (N := 43) rfl ?_); refine bxL 26 #[(.int .i64 0), (.int .i64 0), (.slice none 0 0)] HS ?_; clear HS; intro g_wa w1 hg_wa HS) | ((with_reducible refine gate_store (t := 26) (p := 43) rfl ?_); refine stL HS 0 0 #[.int .i64 wd, .int .i64 wn, .slice C29 wl.length e29] rfl rfl rfl rfl rfl ?_; clear HS; intro w1 HS; have f1_ := HS.out.c 2 0 (v := .int .i64 de) rfl rfl; have f2_ := HS.out.c 2 1 (v := .int .i64 ne) rfl rfl; have f3_ := HS.out.c 2 2 (v := .slice Be le.length me) rfl rfl) | (go_at_call 47; refine (got (specShufflePower de ne Be me le ke _ (HS.out.reads 3 rfl) (HS.out.cap 3 rfl) HBE.out) HW_.out).mono ?_; rintro e_ w1 ⟨C30, e30, rfl, hs⟩; replace HS := sN1 HS hs; clear hs f1_ f2_ f3_) | ((with_reducible refine gate_dst (N := 45) rfl ?_); refine bxL 26 #[(.int .i64 0), (.int .i64 0), (.slice none 0 0)] HS ?_; clear HS; intro g_wb w1 hg_wb HS) | ((with_reducible refine gate_store (t := 26) (p := 45) rfl ?_); refine stL HS 0 0 #[.int .i64 wd, .int .i64 wn, .slice C30 wl.length e30] rfl rfl rfl rfl rfl ?_; clear HS; intro w1 HS) | (go_at_call 48; refine (specDrawShuffleNumber A c xs _ (HX.out.old HS.out)).mono ?_; rintro e_ w1 ⟨df, vf, yf, uf, rfl, hvf, hyf, huf, hb⟩; replace HS := sB HS hb; clear hb))
        have hvf9 : vf.size ≤ 1048576 := by omega
        have hyf9 : yf.size ≤ 1048576 := by omega
        have huf9 : uf.size ≤ 1048576 := by omega
        have HN1 := Aside0.mk (fun X => implShuffleNumberP df vf yf uf X hvf9 hyf9 huf9)
        have HN2 := Aside0.mk (fun X => specShuffleNumberP df vf yf uf X hvf9 hyf9 huf9)
        obtain ⟨nu, nc, en⟩ : ∃ a b : Int, snR df vf yf uf = (a, b) := ⟨_, _, rfl⟩
        rw [en] at HN1 HN2
        have hnu : (nu == nu) = true := by simp
        have hnc : (nc == nc) = true := by simp
        clear en
        have tk9_ : True := trivial
        go_wp2_with (first | (go_at_call 36; refine (HN1.out _).mono ?_; rintro e_ w1 ⟨rfl, hb⟩; replace HS := sB HS hb; clear hb) | (go_at_call 49; refine (HN2.out _).mono ?_; rintro e_ w1 ⟨rfl, hb⟩; replace HS := sB HS hb; clear hb; have f1_ := HS.out.c 8 0 (v := .int .i64 kd) rfl rfl; have f2_ := HS.out.c 8 1 (v := .int .i64 kn) rfl rfl; have f3_ := HS.out.c 8 2 (v := .slice C27 kl.length e27) rfl rfl; have f4_ := HS.out.c 6 0 (v := .int .i64 kd) rfl rfl; have f5_ := HS.out.c 6 1 (v := .int .i64 kn) rfl rfl; have f6_ := HS.out.c 6 2 (v := .slice C28 kl.length e28) rfl rfl) | (go_at_call 35; clear tk9_; refine (lawSeries5 kd kn C27 C28 e27 e28 kl _ (HS.out.reads 9 rfl) (HS.out.reads 7 rfl) hkl).mono ?_; rintro e_ w1 ⟨rfl, hb⟩; replace HS := sB HS hb; clear hb f1_ f2_ f3_ f4_ f5_ f6_; have f1_ := HS.out.c 2 0 (v := .int .i64 wd) rfl rfl; have f2_ := HS.out.c 2 1 (v := .int .i64 wn) rfl rfl; have f3_ := HS.out.c 2 2 (v := .slice C29 wl.length e29) rfl rfl; have f4_ := HS.out.c 0 0 (v := .int .i64 wd) rfl rfl; have f5_ := HS.out.c 0 1 (v := .int .i64 wn) rfl rfl; have f6_ := HS.out.c 0 2 (v := .slice C30 wl.length e30) rfl rfl) | (go_at_call 35; refine (lawSeries5 wd wn C29 C30 e29 e30 wl _ (HS.out.reads 3 rfl) (HS.out.reads 1 rfl) hwl).mono ?_; rintro e_ w1 ⟨rfl, hb⟩; replace HS := sB HS hb; clear hb f1_ f2_ f3_ f4_ f5_ f6_))
        go_ret
        exact ⟨rfl, (HS.out.sel [] (by decide)).below⟩
end Go.Proofs.Ytibjkjhpfmmjoaa.H



namespace Go.Proofs.Ytibjkjhpfmmjoaa.H
open Go.RowKit Go.ChangeShapes Go.ChangeAt Go.Joins Go.Deep Go.ChangeMaps Go.Proofs.YtibjkjhpfmmjoaaW.PrintWords Go.Proofs.YtibjkjhpfmmjoaaW.PrintLast Go.Proofs.YtibjkjhpfmmjoaaW.PrintMore Go.Proofs.Ytibjkjhpfmmjoaa.M
set_option linter.unusedVariables false
set_option maxRecDepth 100000
theorem opensQ_byte {P : Program} {t : TypeId} (ht : P.underlying t = some (.int .u8)) : OpensQ P (Kd.int .u8) t (fun x => 0 ≤ x ∧ x < 256) := fun H enc w fuel cs x h => by
  obtain ⟨n, hn, _, hw⟩ := DataW.trod_int ht h
  refine ⟨n, ?_, hn⟩
  simp only [Lit.wf, Bool.and_eq_true, decide_eq_true_eq] at hw
  have h1 : IntKind.u8.min = 0 := by decide
  have h2 : IntKind.u8.max = 255 := by decide
  rw [h1, h2] at hw
  omega
theorem openBytes {H : Type} {enc : TypeId × Value → H} {W : World} {r : Reach} {b0 : Nat} {v : Value} {dd : DataW H} {p : List MemPlace} (hval : Value.okWide Try.prog W r b0 22 v) (h : DataW.Trod enc Try.prog W 0 (fun _ => true) true 22 v dd p) :
    ∃ A c, ∃ l : List Int, v = .slice A l.length c ∧ (∀ x ∈ l, 0 ≤ x ∧ x < 256) ∧ (Kd.int .u8).C W A l.length l := by
  obtain ⟨A, n, c, rfl⟩ := Go.WideShapes.okWide_slice Try.underlying22 hval
  obtain ⟨fuel, hf⟩ := h
  have ho : OpensQ Try.prog (Kd.slice 5 (Kd.int .u8)) 22 (fun l => ∀ a ∈ l, 0 ≤ a ∧ a < 256) := opensQ_slice Try.underlying22 (by kernel_rfl) (opensQ_byte Try.underlying5)
  obtain ⟨l, hq, A', c', e1, hl, hr⟩ := ho _ _ _ _ _ _ hf
  have e2 : Value.slice A n c = .slice A' l.length c' := by simpa [Value.cells] using e1
  injection e2 with e3 e4 e5
  subst e3 e4 e5
  exact ⟨A, c, l, rfl, hq, hr⟩
end Go.Proofs.Ytibjkjhpfmmjoaa.H


