/- Powers by shuffles: what the program and the reference return. Conditions: the bounds that stand in each statement. -/
import Derived.Test.YtaheikponfmdiaaKShufF
import Derived.Test.YtaheikponfmdiaaKUnit
namespace Go.Proofs.Ytaheikponfmdiaa.M
def shpR (d n : Int) (l : Ts) (k : Int) : Rs := if isS d n l = true then if inR k 0 8 = true then resO d n (shP d.toNat n.toNat l k.toNat) else noS 2 else noS 1
theorem shp_len {d n : Int} {l : Ts} {k : Int} : (shpR d n l k).2.2.1.length ≤ 1048576 := by
  unfold shpR
  split
  · rename_i h
    split
    · have hl := lev_iff.1 (isS_l h)
      obtain ⟨F, hF⟩ := rel_any (d := d.toNat) (n := n.toNat) (o := shP d.toNat n.toNat l k.toNat) fun z hz => shP_ts (by omega) hz
      exact resO_len (by omega) (by omega) hF
    · show (0 : Nat) ≤ _; decide
  · show (0 : Nat) ≤ _; decide
end Go.Proofs.Ytaheikponfmdiaa.M
namespace Go.Proofs.Ytaheikponfmdiaa.H
open Go.RowKit Go.Proofs.YtaheikponfmdiaaW.PrintWords Go.Proofs.YtaheikponfmdiaaW.PrintLast Go.Proofs.YtaheikponfmdiaaW.PrintMore Go.Proofs.Ytaheikponfmdiaa.M
attribute [local go_sem] max2_int min2_int max_two min_two max_three min_three max_four min_four resQ
set_option linter.unusedVariables false
set_option linter.unusedSimpArgs false
set_option maxRecDepth 100000
set_option maxHeartbeats 4000000 in
theorem specOne1 (d n : Int) (s : ByteArray) (w : World) : Calls Try.prog 116 #[.int .i64 d, .int .i64 n, .string s] w fun e w' => ∃ B b, e = .returned (.agg #[.int .i64 d, .int .i64 n, .slice B 1 b]) ∧ Sep w w' [rowT B b [(s, 1, 1)]] := by
  have HS := Aside0.mk (Sep.refl w)
  go_enter Try.func116, Try.ntmps116
  go_wp2_with (first | ((with_reducible refine gate_dst (N := 6) rfl ?_); refine bxL 24 #[(.int .i64 0), (.int .i64 0), (.slice none 0 0)] HS ?_; clear HS; intro g_r w1 hg_r HS) | ((with_reducible refine gate_dst (N := 12) rfl ?_); refine wpList_stp (fun K hK => ?_); refine stp_lit (KT) rfl 66 (by rfl) HS (xs := [((s, 1, 1) : Tm)]) (inner := [.string s, .int .i64 1, .int .i64 1]) (by first | (go_simp; done) | (go_simp; rfl)) (fun W base ok => Reps.snoc (Reps.none _ _) (KT_M (s, 1, 1) W base ok) rfl) (by simp) ?_; clear HS; intro A_z c_z w1 HS; refine hK _ _ ?_; clear hK K) | ((with_reducible refine gate_store (t := 24) (p := 6) rfl ?_); refine stL HS 1 0 #[(.int .i64 d), (.int .i64 n), (.slice A_z ([((s, 1, 1) : Tm)]).length c_z)] rfl rfl rfl rfl rfl ?_; clear HS; intro w1 HS))
  refine bodyPost_ret (results_cell_row rfl _ _ g_r 24 #[(.int .i64 d), (.int .i64 n), (.slice A_z ([((s, 1, 1) : Tm)]).length c_z)] (0, 0) _ rfl (HS.out.at (i := 1) rfl) Try.underlying24 rfl (by kernel_rfl)) rfl ?_
  replace HS : Aside0 (Mod _ _ _ [_]) := sX HS [0]
  exact ⟨A_z, c_z, rfl, HS.out⟩
set_option maxHeartbeats 8000000 in
theorem specShufflePower (d n : Int) (A : Option Addr) (c : Nat) (l : Ts) (k : Int) (w : World) (hr : KT.C w A l.length l) (hc : l.length ≤ c) (hb : bnd l = true) :
    Calls Try.prog 32 #[.agg #[.int .i64 d, .int .i64 n, .slice A l.length c], .int .i64 k] w (RetS w (shpR d n l k)) := by
  have HR := Aside0.mk hr
  have HB := Aside0.mk hb
  have HS := Aside0.mk (Sep.refl w)
  clear hr hb
  unfold shpR
  cases h : isS d n l with
  | false =>
    go_enter Try.func32, Try.ntmps32
    go_wp2_with (first | ((with_reducible refine gate_dst (N := 2) rfl ?_); refine bxL 24 #[.int .i64 d, .int .i64 n, .slice A l.length c] HS ?_; clear HS; intro g_p w1 hg_p HS) | ((with_reducible refine gate_dst (N := 4) rfl ?_); refine bxL 24 #[(.int .i64 0), (.int .i64 0), (.slice none 0 0)] HS ?_; clear HS; intro g_r w1 hg_r HS; have f1_ := HS.out.c 1 0 (v := .int .i64 d) rfl rfl; have f2_ := HS.out.c 1 1 (v := .int .i64 n) rfl rfl; have f3_ := HS.out.c 1 2 (v := .slice A l.length c) rfl rfl) | (go_at_call 94; refine (specIs d n A c l _ (HS.out.oldC HR.out) hc HB.out).mono ?_; rintro e_ w1 ⟨rfl, hb⟩; replace HS := sB HS hb; clear hb f1_ f2_ f3_) | ((with_reducible refine gate_store (t := 24) (p := 4) rfl ?_); refine stL HS 0 0 #[(.int .i64 0), (.int .i64 0), (.slice none 0 0)] rfl rfl rfl rfl rfl ?_; clear HS; intro w1 HS))
    refine bodyPost_ret (results_cell_tmp_row rfl _ _ g_r 24 #[(.int .i64 0), (.int .i64 0), (.slice none 0 0)] (0, 0) _ rfl (HS.out.at (i := 0) rfl) Try.underlying24 rfl (by kernel_rfl)) rfl ?_
    exact ⟨none, 0, rfl, nilS (HS.out.sel [] (by decide))⟩
  | true =>
    have HX := Aside0.mk (isS_t h)
    obtain ⟨d, n, rfl, rfl, hd1, hd3, hn1, hn5⟩ := lev_nat (isS_l h)
    have hd9 : d ≤ 9 := by omega
    rw [Int.toNat_natCast, Int.toNat_natCast] at HX ⊢
    cases h2 : inR k 0 8 with
    | false =>
      go_enter Try.func32, Try.ntmps32
      go_wp2_with (first | ((with_reducible refine gate_dst (N := 2) rfl ?_); refine bxL 24 #[.int .i64 (d : Int), .int .i64 (n : Int), .slice A l.length c] HS ?_; clear HS; intro g_p w1 hg_p HS) | ((with_reducible refine gate_dst (N := 4) rfl ?_); refine bxL 24 #[(.int .i64 0), (.int .i64 0), (.slice none 0 0)] HS ?_; clear HS; intro g_r w1 hg_r HS; have f1_ := HS.out.c 1 0 (v := .int .i64 (d : Int)) rfl rfl; have f2_ := HS.out.c 1 1 (v := .int .i64 (n : Int)) rfl rfl; have f3_ := HS.out.c 1 2 (v := .slice A l.length c) rfl rfl) | (go_at_call 94; refine (specIs d n A c l _ (HS.out.oldC HR.out) hc HB.out).mono ?_; rintro e_ w1 ⟨rfl, hb⟩; replace HS := sB HS hb; clear hb f1_ f2_ f3_) | (go_at_call 115; refine (specInB _ _ _ _).mono ?_; rintro e_ w1 ⟨rfl, hb⟩; replace HS := sB HS hb; clear hb) | ((with_reducible refine gate_store (t := 24) (p := 4) rfl ?_); refine stL HS 0 0 #[(.int .i64 0), (.int .i64 0), (.slice none 0 0)] rfl rfl rfl rfl rfl ?_; clear HS; intro w1 HS))
      refine bodyPost_ret (results_cell_tmp_row rfl _ _ g_r 24 #[(.int .i64 0), (.int .i64 0), (.slice none 0 0)] (0, 0) _ rfl (HS.out.at (i := 0) rfl) Try.underlying24 rfl (by kernel_rfl)) rfl ?_
      exact ⟨none, 0, rfl, nilS (HS.out.sel [] (by decide))⟩
    | true =>
      have h3 := (inR_iff _ _ _).1 h2
      obtain ⟨kk, rfl⟩ : ∃ kk : Nat, k = kk := ⟨k.toNat, by omega⟩
      rw [Int.toNat_natCast, if_pos rfl, if_pos rfl]
      have hkk : kk ≤ 8 := by omega
      clear h3
      have HTM := Aside0.mk (fun B b (z : Ts) W k1 k2 k3 (hz : isTs d n z = true) => shF_def d n z l ▸ specShuffleF d n hd3 hn5 B b z A c l W k1 k2 k3 hc hz HX.out)
      go_enter Try.func32, Try.ntmps32
      go_wp2_with (first | ((with_reducible refine gate_dst (N := 2) rfl ?_); refine bxL 24 #[.int .i64 (d : Int), .int .i64 (n : Int), .slice A l.length c] HS ?_; clear HS; intro g_p w1 hg_p HS) | ((with_reducible refine gate_dst (N := 4) rfl ?_); refine bxL 24 #[(.int .i64 0), (.int .i64 0), (.slice none 0 0)] HS ?_; clear HS; intro g_r w1 hg_r HS; have f1_ := HS.out.c 1 0 (v := .int .i64 (d : Int)) rfl rfl; have f2_ := HS.out.c 1 1 (v := .int .i64 (n : Int)) rfl rfl; have f3_ := HS.out.c 1 2 (v := .slice A l.length c) rfl rfl) | (go_at_call 94; refine (specIs d n A c l _ (HS.out.oldC HR.out) hc HB.out).mono ?_; rintro e_ w1 ⟨rfl, hb⟩; replace HS := sB HS hb; clear hb f1_ f2_ f3_) | (go_at_call 115; refine (specInB _ _ _ _).mono ?_; rintro e_ w1 ⟨rfl, hb⟩; replace HS := sB HS hb; clear hb; have f1_ := HS.out.c 1 0 (v := .int .i64 (d : Int)) rfl rfl; have f2_ := HS.out.c 1 1 (v := .int .i64 (n : Int)) rfl rfl) | (go_at_call 116; refine (specOne1 d n eps _).mono ?_; rintro e_ w1 ⟨B, b, rfl, hs⟩; replace HS := sN1 HS hs; clear hs f1_ f2_) | ((with_reducible refine gate_dst (N := 6) rfl ?_); refine bxL 24 #[(.int .i64 0), (.int .i64 0), (.slice none 0 0)] HS ?_; clear HS; intro g_q w1 hg_q HS) | ((with_reducible refine gate_store (t := 24) (p := 6) rfl ?_); refine stL HS 0 0 #[.int .i64 (d : Int), .int .i64 (n : Int), .slice B unitT.length b] rfl rfl rfl rfl rfl ?_; clear HS; intro w1 HS))
      simp only [Act.put, List.setIfInBounds_toArray, List.set_cons_zero, List.set_cons_succ]
      go_loopw [1] (fun v w' => ∃ (j : Nat) (B : Option Addr) (b : Nat) (z : Ts), j ≤ kk ∧ v = .int .i64 (j : Int) ∧ Aside0 (shP d n l (kk - j) = some z) ∧ Aside0 (Mod w w' No [bx g_q 24 #[.int .i64 (d : Int), .int .i64 (n : Int), .slice B z.length b], rowT B b z, bx g_r 24 #[(.int .i64 0), (.int .i64 0), (.slice none 0 0)], bx g_p 24 #[.int .i64 (d : Int), .int .i64 (n : Int), .slice A l.length c]])) (fun v _ => (intOf v).toNat)
      case atStart => exact ⟨kk, B, b, unitT, by omega, rfl, ⟨by rw [Nat.sub_self]; rfl⟩, sX HS [0, 1, 2, 3]⟩
      case round =>
        clear HS
        obtain ⟨j, B, b, z, hj, rfl, HZ, HS⟩ := hrel
        have HZT := Aside0.mk (shP_ts hd9 HZ.out)
        by_cases hlt : 0 < j
        · obtain ⟨m, hm⟩ : ∃ m, m = shF d n z l := ⟨_, rfl⟩
          have HP := Aside0.mk (fun W k1 k2 k3 => hm ▸ HTM.out B b z W k1 k2 k3 HZT.out)
          have HN := Aside0.mk (show shP d n l (kk - (j - 1)) = m by rw [show kk - (j - 1) = kk - j + 1 by omega, shP, HZ.out, hm]; rfl)
          clear hm
          cases m with
          | none =>
            have f1_ := HS.out.c 0 0 (v := .int .i64 (d : Int)) rfl rfl
            have f2_ := HS.out.c 0 1 (v := .int .i64 (n : Int)) rfl rfl
            have f3_ := HS.out.c 0 2 (v := .slice B z.length b) rfl rfl
            have f4_ := HS.out.c 3 0 (v := .int .i64 (d : Int)) rfl rfl
            have f5_ := HS.out.c 3 1 (v := .int .i64 (n : Int)) rfl rfl
            have f6_ := HS.out.c 3 2 (v := .slice A l.length c) rfl rfl
            go_wp2_with (first | (go_at_call 112; refine (HP.out _ (HS.out.reads 1 rfl) (HS.out.cap 1 rfl) (HS.out.oldC HR.out)).mono ?_; rintro e_ w1 ⟨B2, b2, rfl, hs⟩; replace HS := sN1 HS hs; clear hs f1_ f2_ f3_ f4_ f5_ f6_) | ((with_reducible refine gate_dst (N := 7) rfl ?_); refine bxL 24 #[(.int .i64 0), (.int .i64 0), (.slice none 0 0)] HS ?_; clear HS; intro g_y w1 hg_y HS) | ((with_reducible refine gate_store (t := 24) (p := 7) rfl ?_); refine stL HS 0 0 #[.int .i64 0, .int .i64 0, .slice B2 ([] : Ts).length b2] rfl rfl rfl rfl rfl ?_; clear HS; intro w1 HS) | ((with_reducible refine gate_store (t := 24) (p := 4) rfl ?_); refine stL HS 4 0 #[(.int .i64 0), (.int .i64 0), (.slice none 0 0)] rfl rfl rfl rfl rfl ?_; clear HS; intro w1 HS))
            refine bodyPost_ret (results_cell_tmp_row rfl _ _ g_r 24 #[(.int .i64 0), (.int .i64 0), (.slice none 0 0)] (0, 0) _ rfl (HS.out.at (i := 4) rfl) Try.underlying24 rfl (by kernel_rfl)) rfl ?_
            rw [shP_none HN.out (by omega)]
            exact ⟨none, 0, rfl, nilS (HS.out.sel [] (by decide))⟩
          | some z' =>
            have f1_ := HS.out.c 0 0 (v := .int .i64 (d : Int)) rfl rfl
            have f2_ := HS.out.c 0 1 (v := .int .i64 (n : Int)) rfl rfl
            have f3_ := HS.out.c 0 2 (v := .slice B z.length b) rfl rfl
            have f4_ := HS.out.c 3 0 (v := .int .i64 (d : Int)) rfl rfl
            have f5_ := HS.out.c 3 1 (v := .int .i64 (n : Int)) rfl rfl
            have f6_ := HS.out.c 3 2 (v := .slice A l.length c) rfl rfl
            go_wp2_with (first | (go_at_call 112; refine (HP.out _ (HS.out.reads 1 rfl) (HS.out.cap 1 rfl) (HS.out.oldC HR.out)).mono ?_; rintro e_ w1 ⟨B2, b2, rfl, hs⟩; replace HS := sN1 HS hs; clear hs f1_ f2_ f3_ f4_ f5_ f6_) | ((with_reducible refine gate_dst (N := 7) rfl ?_); refine bxL 24 #[(.int .i64 0), (.int .i64 0), (.slice none 0 0)] HS ?_; clear HS; intro g_y w1 hg_y HS) | ((with_reducible refine gate_store (t := 24) (p := 7) rfl ?_); refine stL HS 0 0 #[.int .i64 (d : Int), .int .i64 (n : Int), .slice B2 z'.length b2] rfl rfl rfl rfl rfl ?_; clear HS; intro w1 HS; have f1_ := HS.out.c 0 0 (v := .int .i64 (d : Int)) rfl rfl; have f2_ := HS.out.c 0 1 (v := .int .i64 (n : Int)) rfl rfl; have f3_ := HS.out.c 0 2 (v := .slice B2 z'.length b2) rfl rfl) | ((with_reducible refine gate_store (t := 24) (p := 6) rfl ?_); refine stL HS 2 0 #[.int .i64 (d : Int), .int .i64 (n : Int), .slice B2 z'.length b2] rfl rfl rfl rfl rfl ?_; clear HS f1_ f2_ f3_; intro w1 HS))
            go_roundw
            case rel => exact ⟨j - 1, B2, b2, z', by omega, by first | go_num | (congr 1; omega), HN, sX HS [2, 1, 4, 5]⟩
            case measure => simp [intOf]; omega
        · obtain rfl : j = 0 := by omega
          have f1_ := HS.out.c 0 0 (v := .int .i64 (d : Int)) rfl rfl
          have f2_ := HS.out.c 0 1 (v := .int .i64 (n : Int)) rfl rfl
          have f3_ := HS.out.c 0 2 (v := .slice B z.length b) rfl rfl
          go_wp2_with (first | ((with_reducible refine gate_store (t := 24) (p := 4) rfl ?_); refine stL HS 2 0 #[.int .i64 (d : Int), .int .i64 (n : Int), .slice B z.length b] rfl rfl rfl rfl rfl ?_; clear HS f1_ f2_ f3_; intro w1 HS))
          refine bodyPost_ret (results_cell_tmp_row rfl _ _ g_r 24 #[.int .i64 (d : Int), .int .i64 (n : Int), .slice B z.length b] (0, 0) _ rfl (HS.out.at (i := 2) rfl) Try.underlying24 rfl (by kernel_rfl)) rfl ?_
          have e_ : shP d n l kk = some z := HZ.out
          rw [e_]
          exact ⟨B, b, rfl, HS.out.sel [1] (by decide)⟩
set_option maxHeartbeats 8000000 in
theorem implShufflePower (d n : Int) (A : Option Addr) (c : Nat) (l : Ts) (k : Int) (w : World) (hr : KT.C w A l.length l) (hc : l.length ≤ c) (hb : bnd l = true) :
    Calls Try.prog 33 #[.agg #[.int .i64 d, .int .i64 n, .slice A l.length c], .int .i64 k] w (RetS w (shpR d n l k)) := by
  have HR := Aside0.mk hr
  have HB := Aside0.mk hb
  have HS := Aside0.mk (Sep.refl w)
  clear hr hb
  unfold shpR
  cases h : isS d n l with
  | false =>
    go_enter Try.func33, Try.ntmps33
    go_wp2_with (first | ((with_reducible refine gate_dst (N := 2) rfl ?_); refine bxL 24 #[.int .i64 d, .int .i64 n, .slice A l.length c] HS ?_; clear HS; intro g_p w1 hg_p HS) | ((with_reducible refine gate_dst (N := 4) rfl ?_); refine bxL 24 #[(.int .i64 0), (.int .i64 0), (.slice none 0 0)] HS ?_; clear HS; intro g_r w1 hg_r HS; have f1_ := HS.out.c 1 0 (v := .int .i64 d) rfl rfl; have f2_ := HS.out.c 1 1 (v := .int .i64 n) rfl rfl; have f3_ := HS.out.c 1 2 (v := .slice A l.length c) rfl rfl) | (go_at_call 98; refine (implIs d n A c l _ (HS.out.oldC HR.out) hc HB.out).mono ?_; rintro e_ w1 ⟨rfl, hb⟩; replace HS := sB HS hb; clear hb f1_ f2_ f3_) | ((with_reducible refine gate_store (t := 24) (p := 4) rfl ?_); refine stL HS 0 0 #[(.int .i64 0), (.int .i64 0), (.slice none 0 0)] rfl rfl rfl rfl rfl ?_; clear HS; intro w1 HS))
    refine bodyPost_ret (results_cell_tmp_row rfl _ _ g_r 24 #[(.int .i64 0), (.int .i64 0), (.slice none 0 0)] (0, 0) _ rfl (HS.out.at (i := 0) rfl) Try.underlying24 rfl (by kernel_rfl)) rfl ?_
    exact ⟨none, 0, rfl, nilS (HS.out.sel [] (by decide))⟩
  | true =>
    have HX := Aside0.mk (isS_t h)
    have HIS := Aside0.mk h
    have hlev := isS_l h
    obtain ⟨d, n, rfl, rfl, hd1, hd3, hn1, hn5⟩ := lev_nat hlev
    have hd9 : d ≤ 9 := by omega
    have HUN := Aside0.mk (fun W => (show unitR d n = ((d : Int), (n : Int), unitT, 0) by unfold unitR; rw [if_pos hlev]) ▸ implUnitSeries d n W)
    have HLV := Aside0.mk hlev
    clear hlev
    rw [Int.toNat_natCast, Int.toNat_natCast] at HX ⊢
    cases h2 : inR k 0 8 with
    | false =>
      go_enter Try.func33, Try.ntmps33
      go_wp2_with (first | ((with_reducible refine gate_dst (N := 2) rfl ?_); refine bxL 24 #[.int .i64 (d : Int), .int .i64 (n : Int), .slice A l.length c] HS ?_; clear HS; intro g_p w1 hg_p HS) | ((with_reducible refine gate_dst (N := 4) rfl ?_); refine bxL 24 #[(.int .i64 0), (.int .i64 0), (.slice none 0 0)] HS ?_; clear HS; intro g_r w1 hg_r HS; have f1_ := HS.out.c 1 0 (v := .int .i64 (d : Int)) rfl rfl; have f2_ := HS.out.c 1 1 (v := .int .i64 (n : Int)) rfl rfl; have f3_ := HS.out.c 1 2 (v := .slice A l.length c) rfl rfl) | (go_at_call 98; refine (implIs d n A c l _ (HS.out.oldC HR.out) hc HB.out).mono ?_; rintro e_ w1 ⟨rfl, hb⟩; replace HS := sB HS hb; clear hb f1_ f2_ f3_) | (go_at_call 117; refine (implInB _ _ _ _).mono ?_; rintro e_ w1 ⟨rfl, hb⟩; replace HS := sB HS hb; clear hb) | ((with_reducible refine gate_store (t := 24) (p := 4) rfl ?_); refine stL HS 0 0 #[(.int .i64 0), (.int .i64 0), (.slice none 0 0)] rfl rfl rfl rfl rfl ?_; clear HS; intro w1 HS))
      refine bodyPost_ret (results_cell_tmp_row rfl _ _ g_r 24 #[(.int .i64 0), (.int .i64 0), (.slice none 0 0)] (0, 0) _ rfl (HS.out.at (i := 0) rfl) Try.underlying24 rfl (by kernel_rfl)) rfl ?_
      exact ⟨none, 0, rfl, nilS (HS.out.sel [] (by decide))⟩
    | true =>
      have h3 := (inR_iff _ _ _).1 h2
      obtain ⟨kk, rfl⟩ : ∃ kk : Nat, k = kk := ⟨k.toNat, by omega⟩
      rw [Int.toNat_natCast, if_pos rfl, if_pos rfl]
      have hkk : kk ≤ 8 := by omega
      clear h3
      have HTM := Aside0.mk (fun B b (z : Ts) W k1 k2 k3 k4 (hz : isTs d n z = true) => (show twoR shF d n z d n l = resO d n (shF d n z l) by unfold twoR; rw [codeR_4 ((isS_lev HLV.out).trans hz) HIS.out (decide_eq_true ⟨rfl, rfl⟩), if_pos rfl, Int.toNat_natCast, Int.toNat_natCast]) ▸ implShuffleSeries d n B b z d n A c l W k1 k2 k3 k4 hc HB.out)
      go_enter Try.func33, Try.ntmps33
      go_wp2_with (first | ((with_reducible refine gate_dst (N := 2) rfl ?_); refine bxL 24 #[.int .i64 (d : Int), .int .i64 (n : Int), .slice A l.length c] HS ?_; clear HS; intro g_p w1 hg_p HS) | ((with_reducible refine gate_dst (N := 4) rfl ?_); refine bxL 24 #[(.int .i64 0), (.int .i64 0), (.slice none 0 0)] HS ?_; clear HS; intro g_r w1 hg_r HS; have f1_ := HS.out.c 1 0 (v := .int .i64 (d : Int)) rfl rfl; have f2_ := HS.out.c 1 1 (v := .int .i64 (n : Int)) rfl rfl; have f3_ := HS.out.c 1 2 (v := .slice A l.length c) rfl rfl) | (go_at_call 98; refine (implIs d n A c l _ (HS.out.oldC HR.out) hc HB.out).mono ?_; rintro e_ w1 ⟨rfl, hb⟩; replace HS := sB HS hb; clear hb f1_ f2_ f3_) | (go_at_call 117; refine (implInB _ _ _ _).mono ?_; rintro e_ w1 ⟨rfl, hb⟩; replace HS := sB HS hb; clear hb; have f1_ := HS.out.c 1 0 (v := .int .i64 (d : Int)) rfl rfl; have f2_ := HS.out.c 1 1 (v := .int .i64 (n : Int)) rfl rfl) | (go_at_call 66; refine (HUN.out _).mono ?_; rintro e_ w1 ⟨B, b, rfl, hs⟩; replace HS := sN1 HS hs; clear hs f1_ f2_) | ((with_reducible refine gate_dst (N := 6) rfl ?_); refine bxL 24 #[(.int .i64 0), (.int .i64 0), (.slice none 0 0)] HS ?_; clear HS; intro g_q w1 hg_q HS) | ((with_reducible refine gate_store (t := 24) (p := 6) rfl ?_); refine stL HS 0 0 #[.int .i64 (d : Int), .int .i64 (n : Int), .slice B unitT.length b] rfl rfl rfl rfl rfl ?_; clear HS; intro w1 HS))
      go_loopw [7, 25] (fun y v w' => ∃ (j : Nat) (B : Option Addr) (b : Nat) (x : Rs), j ≤ kk ∧ v = .int .i64 (j : Int) ∧ y = .int .i64 x.2.2.2 ∧ Aside0 (x = resO d n (shP d n l j)) ∧ Aside0 (Mod w w' No [bx g_q 24 #[.int .i64 x.1, .int .i64 x.2.1, .slice B x.2.2.1.length b], rowT B b x.2.2.1, bx g_r 24 #[(.int .i64 0), (.int .i64 0), (.slice none 0 0)], bx g_p 24 #[.int .i64 (d : Int), .int .i64 (n : Int), .slice A l.length c]])) (fun _ v _ => kk - (intOf v).toNat)
      case atStart => exact ⟨0, B, b, ((d : Int), (n : Int), unitT, 0), by omega, rfl, rfl, ⟨rfl⟩, sX HS [0, 1, 2, 3]⟩
      case round =>
        clear HS
        obtain ⟨j, B, b, x, hj, rfl, rfl, HZ, HS⟩ := hrel
        by_cases hlt : j < kk
        · cases hz : shP d n l j with
          | none =>
            have hx := HZ.out
            rw [hz] at hx
            have HN := Aside0.mk (show resO d n (none : Option Ts) = resO d n (shP d n l (j + 1)) by rw [shP, hz]; rfl)
            clear hz
            subst hx
            go_wp2
            go_roundw
            case rel => exact ⟨j + 1, B, b, resO d n none, by omega, by go_num, rfl, HN, HS⟩
            case measure => simp [intOf]; omega
          | some z =>
            have hx := HZ.out
            rw [hz] at hx
            have HZT := Aside0.mk (shP_ts hd9 hz)
            have HN := Aside0.mk (show resO d n (shF d n z l) = resO d n (shP d n l (j + 1)) by rw [shP, hz]; rfl)
            have HP := Aside0.mk (fun W k1 k2 k3 => HTM.out B b z W k1 k2 (isTs_bnd hd3 hn5 HZT.out) k3 HZT.out)
            obtain ⟨m, hm⟩ : ∃ m, m = resO d n (shF d n z l) := ⟨_, rfl⟩
            rw [← hm] at HP HN
            clear hz hm
            subst hx
            have f1_ := HS.out.c 0 0 (v := .int .i64 (d : Int)) rfl rfl
            have f2_ := HS.out.c 0 1 (v := .int .i64 (n : Int)) rfl rfl
            have f3_ := HS.out.c 0 2 (v := .slice B z.length b) rfl rfl
            have f4_ := HS.out.c 3 0 (v := .int .i64 (d : Int)) rfl rfl
            have f5_ := HS.out.c 3 1 (v := .int .i64 (n : Int)) rfl rfl
            have f6_ := HS.out.c 3 2 (v := .slice A l.length c) rfl rfl
            go_wp2_with (first | (go_at_call 29; refine (HP.out _ (HS.out.reads 1 rfl) (HS.out.cap 1 rfl) (HS.out.oldC HR.out)).mono ?_; rintro e_ w1 ⟨B2, b2, rfl, hs⟩; replace HS := sN1 HS hs; clear hs f1_ f2_ f3_ f4_ f5_ f6_) | ((with_reducible refine gate_store (t := 24) (p := 6) rfl ?_); refine stL HS 1 0 #[.int .i64 m.1, .int .i64 m.2.1, .slice B2 m.2.2.1.length b2] rfl rfl rfl rfl rfl ?_; clear HS; intro w1 HS))
            go_roundw
            case rel => exact ⟨j + 1, B2, b2, m, by omega, by go_num, rfl, HN, sX HS [1, 0, 3, 4]⟩
            case measure => simp [intOf]; omega
        · obtain rfl : j = kk := by omega
          have f1_ := HS.out.c 0 0 (v := .int .i64 x.1) rfl rfl
          have f2_ := HS.out.c 0 1 (v := .int .i64 x.2.1) rfl rfl
          have f3_ := HS.out.c 0 2 (v := .slice B x.2.2.1.length b) rfl rfl
          go_wp2_with (first | ((with_reducible refine gate_store (t := 24) (p := 4) rfl ?_); refine stL HS 2 0 #[.int .i64 x.1, .int .i64 x.2.1, .slice B x.2.2.1.length b] rfl rfl rfl rfl rfl ?_; clear HS f1_ f2_ f3_; intro w1 HS))
          refine bodyPost_ret (results_cell_tmp_row rfl _ _ g_r 24 #[.int .i64 x.1, .int .i64 x.2.1, .slice B x.2.2.1.length b] (0, 0) _ rfl (HS.out.at (i := 2) rfl) Try.underlying24 rfl (by kernel_rfl)) rfl ?_
          rw [← HZ.out]
          exact ⟨B, b, rfl, HS.out.sel [1] (by decide)⟩
end Go.Proofs.Ytaheikponfmdiaa.H


