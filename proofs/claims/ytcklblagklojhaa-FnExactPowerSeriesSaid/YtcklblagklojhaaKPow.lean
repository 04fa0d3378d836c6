/- Powers of series: what the program and the reference return. Conditions: the bounds that stand in each statement. -/
import Derived.Test.YtcklblagklojhaaKTimesS
import Derived.Test.YtcklblagklojhaaKTabR
namespace Go.Proofs.Ytcklblagklojhaa.M
def powR (d n : Int) (l : Ts) (k : Int) : Rs := if isS d n l = true then if inR k 0 12 = true then resO d n (powO d.toNat n.toNat (some l) k.toNat) else noS 2 else noS 1
theorem pow_none {d n : Nat} {o : Option Ts} {i : Nat} (h : powO d n o i = none) : ∀ {j : Nat}, i ≤ j → powO d n o j = none
  | 0, hj => by obtain rfl : i = 0 := by omega
                exact h
  | j + 1, hj => by
    by_cases e : i = j + 1
    · rw [← e]; exact h
    · rw [powO, pow_none h (j := j) (by omega)]; rfl
theorem pow_len {d n : Int} {l : Ts} {k : Int} : (powR d n l k).2.2.1.length ≤ 1048576 := by
  unfold powR
  split
  · rename_i h
    split
    · obtain ⟨⟨e1, e2⟩, ⟨e3, e4⟩, _⟩ := lev_iff.1 (isS_l h)
      cases hp : powO d.toNat n.toNat (some l) k.toNat with
      | none => show (0 : Nat) ≤ _; decide
      | some p =>
        have h1 := ts_length_le (d := d.toNat) (n := n.toNat) (by omega) (pow_ts (by omega) hp)
        have h2 := ahead_le (d := d.toNat) (k := n.toNat + 1) (by omega) (by omega)
        show p.length ≤ _
        omega
    · show (0 : Nat) ≤ _; decide
  · show (0 : Nat) ≤ _; decide
end Go.Proofs.Ytcklblagklojhaa.M
namespace Go.Proofs.Ytcklblagklojhaa.H
open Go.RowKit Go.Proofs.YtcklblagklojhaaW.PrintWords Go.Proofs.YtcklblagklojhaaW.PrintLast Go.Proofs.YtcklblagklojhaaW.PrintMore Go.Proofs.Ytcklblagklojhaa.M
attribute [local go_sem] max2_int min2_int max_two min_two max_three min_three max_four min_four resQ
set_option linter.unusedVariables false
set_option linter.unusedSimpArgs false
set_option maxRecDepth 100000
set_option maxHeartbeats 8000000 in
theorem tabPower {w : World} {d n g v : Nat} {F : Tb} {o : Option Ts} (hl : lev d n = true) (h : TabI w g v d n F o) (kk : Nat) (hk : kk ≤ 12) :
    Calls Try.prog 153 #[.pointer (some ⟨g, 0, none⟩), .int .i64 (kk : Int)] w (RetT w d n (powO d n o kk)) := by
  have HL := Aside0.mk hl
  have H1 := Aside0.mk h
  have HS := Aside0.mk (Sep.refl w)
  clear hl h
  go_enter Try.func153, Try.ntmps153
  go_wp2_with (first | (go_at_call 115; refine (tabUnit HL.out (H1.out.old HS.out)).mono ?_; rintro e_ w1 ⟨ga, va, Fa, rfl, hF, hQ, hs⟩; replace HS := sN2 HS hs; clear hs; have HFa := Aside0.mk hF; have HQa := Aside0.mk hQ; clear hF hQ))
  go_loopw [5, 9] (fun x q w' => ∃ (i ga va : Nat) (Fa : Tb), i ≤ kk ∧ q = .int .i64 (i : Int) ∧ x = .pointer (some ⟨ga, 0, none⟩) ∧ Aside0 (good Fa.1) ∧ Aside0 (Rel d n (powO d n o i) Fa) ∧ Aside0 (Mod w w' No [tS ga va d n (nW d n) Fa.2, tV va d n Fa.1])) (fun _ q _ => kk - (intOf q).toNat)
  case atStart => exact ⟨0, ga, va, Fa, by omega, rfl, rfl, HFa, HQa, HS⟩
  case round =>
    clear HS HFa HQa
    obtain ⟨i, ga, va, Fa, hi, rfl, rfl, HFa, HQa, HS⟩ := hrel
    by_cases hlt : i < kk
    · skip
      go_wp2_with (first | (go_at_call 148; refine (tabTimes HL.out ⟨HFa.out, HQa.out, HS.out.at (i := 0) rfl, HS.out.at (i := 1) rfl⟩ (H1.out.old HS.out)).mono ?_; rintro e_ w1 ⟨gb, vb, Fb, rfl, hF, hQ, hs⟩; replace HS := sN2 HS hs; clear hs; have HFb := Aside0.mk hF; have HQb := Aside0.mk hQ; clear hF hQ))
      go_roundw
      case rel => exact ⟨i + 1, gb, vb, Fb, by omega, by go_num, rfl, HFb, HQb, sX HS [0, 1]⟩
      case measure => simp [intOf]; omega
    · obtain rfl : i = kk := by omega
      go_wp2
      go_ret
      exact ⟨ga, va, Fa, rfl, HFa.out, HQa.out, HS.out⟩
set_option maxHeartbeats 8000000 in
theorem specPowerSeries (d n : Int) (A : Option Addr) (c : Nat) (l : Ts) (k : Int) (w : World) (hr : KT.C w A l.length l) (hc : l.length ≤ c) (hb : bnd l = true) :
    Calls Try.prog 73 #[.agg #[.int .i64 d, .int .i64 n, .slice A l.length c], .int .i64 k] w (RetS w (powR d n l k)) := by
  have HR := Aside0.mk hr
  have HB := Aside0.mk hb
  have HS := Aside0.mk (Sep.refl w)
  clear hr hb
  unfold powR
  cases h : isS d n l with
  | false =>
    go_enter Try.func73, Try.ntmps73
    go_wp2_with (first | ((with_reducible refine gate_dst (N := 2) rfl ?_); refine bxL 32 #[.int .i64 d, .int .i64 n, .slice A l.length c] HS ?_; clear HS; intro g_p w1 hg_p HS) | ((with_reducible refine gate_dst (N := 4) rfl ?_); refine bxL 32 #[(.int .i64 0), (.int .i64 0), (.slice none 0 0)] HS ?_; clear HS; intro g_r w1 hg_r HS; have f1_ := HS.out.c 1 0 (v := .int .i64 d) rfl rfl; have f2_ := HS.out.c 1 1 (v := .int .i64 n) rfl rfl; have f3_ := HS.out.c 1 2 (v := .slice A l.length c) rfl rfl) | (go_at_call 109; refine (specIs d n A c l _ (HS.out.oldC HR.out) hc HB.out).mono ?_; rintro e_ w1 ⟨rfl, hb⟩; replace HS := sB HS hb; clear hb f1_ f2_ f3_) | ((with_reducible refine gate_store (t := 32) (p := 4) rfl ?_); refine stL HS 0 0 #[(.int .i64 0), (.int .i64 0), (.slice none 0 0)] rfl rfl rfl rfl rfl ?_; clear HS; intro w1 HS))
    refine bodyPost_ret (results_cell_tmp_row rfl _ _ g_r 32 #[(.int .i64 0), (.int .i64 0), (.slice none 0 0)] (0, 0) _ rfl (HS.out.at (i := 0) rfl) Try.underlying32 rfl (by kernel_rfl)) rfl ?_
    exact ⟨none, 0, rfl, nilS (HS.out.sel [] (by decide))⟩
  | true =>
    have HX := Aside0.mk (isS_t h)
    obtain ⟨d, n, rfl, rfl, hd1, hd3, hn1, hn5⟩ := lev_nat (isS_l h)
    have hd9 : d ≤ 9 := by omega
    rw [Int.toNat_natCast, Int.toNat_natCast] at HX ⊢
    cases h2 : inR k 0 12 with
    | false =>
      go_enter Try.func73, Try.ntmps73
      go_wp2_with (first | ((with_reducible refine gate_dst (N := 2) rfl ?_); refine bxL 32 #[.int .i64 (d : Int), .int .i64 (n : Int), .slice A l.length c] HS ?_; clear HS; intro g_p w1 hg_p HS) | ((with_reducible refine gate_dst (N := 4) rfl ?_); refine bxL 32 #[(.int .i64 0), (.int .i64 0), (.slice none 0 0)] HS ?_; clear HS; intro g_r w1 hg_r HS; have f1_ := HS.out.c 1 0 (v := .int .i64 (d : Int)) rfl rfl; have f2_ := HS.out.c 1 1 (v := .int .i64 (n : Int)) rfl rfl; have f3_ := HS.out.c 1 2 (v := .slice A l.length c) rfl rfl) | (go_at_call 109; refine (specIs d n A c l _ (HS.out.oldC HR.out) hc HB.out).mono ?_; rintro e_ w1 ⟨rfl, hb⟩; replace HS := sB HS hb; clear hb f1_ f2_ f3_) | (go_at_call 99; refine (specInB _ _ _ _).mono ?_; rintro e_ w1 ⟨rfl, hb⟩; replace HS := sB HS hb; clear hb) | ((with_reducible refine gate_store (t := 32) (p := 4) rfl ?_); refine stL HS 0 0 #[(.int .i64 0), (.int .i64 0), (.slice none 0 0)] rfl rfl rfl rfl rfl ?_; clear HS; intro w1 HS))
      refine bodyPost_ret (results_cell_tmp_row rfl _ _ g_r 32 #[(.int .i64 0), (.int .i64 0), (.slice none 0 0)] (0, 0) _ rfl (HS.out.at (i := 0) rfl) Try.underlying32 rfl (by kernel_rfl)) rfl ?_
      exact ⟨none, 0, rfl, nilS (HS.out.sel [] (by decide))⟩
    | true =>
      have h3 := (inR_iff _ _ _).1 h2
      obtain ⟨kk, rfl⟩ : ∃ kk : Nat, k = kk := ⟨k.toNat, by omega⟩
      rw [Int.toNat_natCast, if_pos rfl, if_pos rfl]
      have hkk : kk ≤ 12 := by omega
      have HTM := Aside0.mk (fun B b z W k1 k2 k3 k4 => specTimes2 d n hd3 hn5 B b z A c l W k1 k2 k3 hc k4 HX.out)
      clear h3
      go_enter Try.func73, Try.ntmps73
      go_wp2_with (first | ((with_reducible refine gate_dst (N := 2) rfl ?_); refine bxL 32 #[.int .i64 (d : Int), .int .i64 (n : Int), .slice A l.length c] HS ?_; clear HS; intro g_p w1 hg_p HS) | ((with_reducible refine gate_dst (N := 4) rfl ?_); refine bxL 32 #[(.int .i64 0), (.int .i64 0), (.slice none 0 0)] HS ?_; clear HS; intro g_r w1 hg_r HS; have f1_ := HS.out.c 1 0 (v := .int .i64 (d : Int)) rfl rfl; have f2_ := HS.out.c 1 1 (v := .int .i64 (n : Int)) rfl rfl; have f3_ := HS.out.c 1 2 (v := .slice A l.length c) rfl rfl) | (go_at_call 109; refine (specIs d n A c l _ (HS.out.oldC HR.out) hc HB.out).mono ?_; rintro e_ w1 ⟨rfl, hb⟩; replace HS := sB HS hb; clear hb f1_ f2_ f3_) | (go_at_call 99; refine (specInB _ _ _ _).mono ?_; rintro e_ w1 ⟨rfl, hb⟩; replace HS := sB HS hb; clear hb; have f1_ := HS.out.c 1 0 (v := .int .i64 (d : Int)) rfl rfl; have f2_ := HS.out.c 1 1 (v := .int .i64 (n : Int)) rfl rfl; have f3_ := HS.out.c 1 2 (v := .slice A l.length c) rfl rfl) | (go_at_call 113; refine (specUnit d n A l.length c _).mono ?_; rintro e_ w1 ⟨B, b, rfl, hs⟩; replace HS := sN1 HS hs; clear hs f1_ f2_ f3_) | ((with_reducible refine gate_dst (N := 6) rfl ?_); refine bxL 32 #[(.int .i64 0), (.int .i64 0), (.slice none 0 0)] HS ?_; clear HS; intro g_q w1 hg_q HS) | ((with_reducible refine gate_store (t := 32) (p := 6) rfl ?_); refine stL HS 0 0 #[.int .i64 (d : Int), .int .i64 (n : Int), .slice B unitT.length b] rfl rfl rfl rfl rfl ?_; clear HS; intro w1 HS))
      simp only [Act.put, List.setIfInBounds_toArray, List.set_cons_zero, List.set_cons_succ]
      go_loopw [1] (fun v w' => ∃ (j : Nat) (B : Option Addr) (b : Nat) (z : Ts), j ≤ kk ∧ v = .int .i64 (j : Int) ∧ Aside0 (powO d n (some l) (kk - j) = some z) ∧ Aside0 (Mod w w' No [bx g_q 32 #[.int .i64 (d : Int), .int .i64 (n : Int), .slice B z.length b], rowT B b z, bx g_r 32 #[(.int .i64 0), (.int .i64 0), (.slice none 0 0)], bx g_p 32 #[.int .i64 (d : Int), .int .i64 (n : Int), .slice A l.length c]])) (fun v _ => (intOf v).toNat)
      case atStart => exact ⟨kk, B, b, unitT, by omega, rfl, ⟨by rw [Nat.sub_self]; rfl⟩, HS⟩
      case round =>
        clear HS
        obtain ⟨j, B, b, z, hj, rfl, HZ, HS⟩ := hrel
        have HZT := Aside0.mk (pow_ts hd9 HZ.out)
        by_cases hlt : 0 < j
        · obtain ⟨m, hm⟩ : ∃ m, m = mulS d n z l := ⟨_, rfl⟩
          have HP := Aside0.mk (fun W k1 k2 k3 => hm ▸ HTM.out B b z W k1 k2 k3 HZT.out)
          have HN := Aside0.mk (show powO d n (some l) (kk - (j - 1)) = m by rw [show kk - (j - 1) = kk - j + 1 by omega, powO, HZ.out, hm]; rfl)
          clear hm
          cases m with
          | none =>
            have f1_ := HS.out.c 0 0 (v := .int .i64 (d : Int)) rfl rfl
            have f2_ := HS.out.c 0 1 (v := .int .i64 (n : Int)) rfl rfl
            have f3_ := HS.out.c 0 2 (v := .slice B z.length b) rfl rfl
            have f4_ := HS.out.c 3 0 (v := .int .i64 (d : Int)) rfl rfl
            have f5_ := HS.out.c 3 1 (v := .int .i64 (n : Int)) rfl rfl
            have f6_ := HS.out.c 3 2 (v := .slice A l.length c) rfl rfl
            go_wp2_with (first | (go_at_call 147; refine (HP.out _ (HS.out.reads 1 rfl) (HS.out.cap 1 rfl) (HS.out.oldC HR.out)).mono ?_; rintro e_ w1 ⟨B2, b2, rfl, hs⟩; replace HS := sN1 HS hs; clear hs f1_ f2_ f3_ f4_ f5_ f6_) | ((with_reducible refine gate_dst (N := 7) rfl ?_); refine bxL 32 #[(.int .i64 0), (.int .i64 0), (.slice none 0 0)] HS ?_; clear HS; intro g_y w1 hg_y HS) | ((with_reducible refine gate_store (t := 32) (p := 7) rfl ?_); refine stL HS 0 0 #[.int .i64 0, .int .i64 0, .slice B2 ([] : Ts).length b2] rfl rfl rfl rfl rfl ?_; clear HS; intro w1 HS) | ((with_reducible refine gate_store (t := 32) (p := 4) rfl ?_); refine stL HS 4 0 #[(.int .i64 0), (.int .i64 0), (.slice none 0 0)] rfl rfl rfl rfl rfl ?_; clear HS; intro w1 HS))
            refine bodyPost_ret (results_cell_tmp_row rfl _ _ g_r 32 #[(.int .i64 0), (.int .i64 0), (.slice none 0 0)] (0, 0) _ rfl (HS.out.at (i := 4) rfl) Try.underlying32 rfl (by kernel_rfl)) rfl ?_
            rw [pow_none HN.out (by omega)]
            exact ⟨none, 0, rfl, nilS (HS.out.sel [] (by decide))⟩
          | some z' =>
            have f1_ := HS.out.c 0 0 (v := .int .i64 (d : Int)) rfl rfl
            have f2_ := HS.out.c 0 1 (v := .int .i64 (n : Int)) rfl rfl
            have f3_ := HS.out.c 0 2 (v := .slice B z.length b) rfl rfl
            have f4_ := HS.out.c 3 0 (v := .int .i64 (d : Int)) rfl rfl
            have f5_ := HS.out.c 3 1 (v := .int .i64 (n : Int)) rfl rfl
            have f6_ := HS.out.c 3 2 (v := .slice A l.length c) rfl rfl
            go_wp2_with (first | (go_at_call 147; refine (HP.out _ (HS.out.reads 1 rfl) (HS.out.cap 1 rfl) (HS.out.oldC HR.out)).mono ?_; rintro e_ w1 ⟨B2, b2, rfl, hs⟩; replace HS := sN1 HS hs; clear hs f1_ f2_ f3_ f4_ f5_ f6_) | ((with_reducible refine gate_dst (N := 7) rfl ?_); refine bxL 32 #[(.int .i64 0), (.int .i64 0), (.slice none 0 0)] HS ?_; clear HS; intro g_y w1 hg_y HS) | ((with_reducible refine gate_store (t := 32) (p := 7) rfl ?_); refine stL HS 0 0 #[.int .i64 (d : Int), .int .i64 (n : Int), .slice B2 z'.length b2] rfl rfl rfl rfl rfl ?_; clear HS; intro w1 HS; have f1_ := HS.out.c 0 0 (v := .int .i64 (d : Int)) rfl rfl; have f2_ := HS.out.c 0 1 (v := .int .i64 (n : Int)) rfl rfl; have f3_ := HS.out.c 0 2 (v := .slice B2 z'.length b2) rfl rfl) | ((with_reducible refine gate_store (t := 32) (p := 6) rfl ?_); refine stL HS 2 0 #[.int .i64 (d : Int), .int .i64 (n : Int), .slice B2 z'.length b2] rfl rfl rfl rfl rfl ?_; clear HS f1_ f2_ f3_; intro w1 HS))
            go_roundw
            case rel => exact ⟨j - 1, B2, b2, z', by omega, by first | go_num | (congr 1; omega), HN, sX HS [2, 1, 4, 5]⟩
            case measure => simp [intOf]; omega
        · obtain rfl : j = 0 := by omega
          have f1_ := HS.out.c 0 0 (v := .int .i64 (d : Int)) rfl rfl
          have f2_ := HS.out.c 0 1 (v := .int .i64 (n : Int)) rfl rfl
          have f3_ := HS.out.c 0 2 (v := .slice B z.length b) rfl rfl
          go_wp2_with (first | ((with_reducible refine gate_store (t := 32) (p := 4) rfl ?_); refine stL HS 2 0 #[.int .i64 (d : Int), .int .i64 (n : Int), .slice B z.length b] rfl rfl rfl rfl rfl ?_; clear HS f1_ f2_ f3_; intro w1 HS))
          refine bodyPost_ret (results_cell_tmp_row rfl _ _ g_r 32 #[.int .i64 (d : Int), .int .i64 (n : Int), .slice B z.length b] (0, 0) _ rfl (HS.out.at (i := 2) rfl) Try.underlying32 rfl (by kernel_rfl)) rfl ?_
          have e_ : powO d n (some l) kk = some z := HZ.out
          rw [e_]
          exact ⟨B, b, rfl, HS.out.sel [1] (by decide)⟩
set_option maxHeartbeats 8000000 in
theorem implPowerSeries (d n : Int) (A : Option Addr) (c : Nat) (l : Ts) (k : Int) (w : World) (hr : KT.C w A l.length l) (hc : l.length ≤ c) (hb : bnd l = true) :
    Calls Try.prog 74 #[.agg #[.int .i64 d, .int .i64 n, .slice A l.length c], .int .i64 k] w (RetS w (powR d n l k)) := by
  have HR := Aside0.mk hr
  have HB := Aside0.mk hb
  have HS := Aside0.mk (Sep.refl w)
  clear hr hb
  unfold powR
  cases h : isS d n l with
  | false =>
    go_enter Try.func74, Try.ntmps74
    go_wp2_with (first | ((with_reducible refine gate_dst (N := 2) rfl ?_); refine bxL 32 #[.int .i64 d, .int .i64 n, .slice A l.length c] HS ?_; clear HS; intro g_p w1 hg_p HS) | ((with_reducible refine gate_dst (N := 4) rfl ?_); refine bxL 32 #[(.int .i64 0), (.int .i64 0), (.slice none 0 0)] HS ?_; clear HS; intro g_r w1 hg_r HS; have f1_ := HS.out.c 1 0 (v := .int .i64 d) rfl rfl; have f2_ := HS.out.c 1 1 (v := .int .i64 n) rfl rfl; have f3_ := HS.out.c 1 2 (v := .slice A l.length c) rfl rfl) | (go_at_call 42; refine (implIs d n A c l _ (HS.out.oldC HR.out) hc HB.out).mono ?_; rintro e_ w1 ⟨rfl, hb⟩; replace HS := sB HS hb; clear hb f1_ f2_ f3_) | ((with_reducible refine gate_store (t := 32) (p := 4) rfl ?_); refine stL HS 0 0 #[(.int .i64 0), (.int .i64 0), (.slice none 0 0)] rfl rfl rfl rfl rfl ?_; clear HS; intro w1 HS))
    refine bodyPost_ret (results_cell_tmp_row rfl _ _ g_r 32 #[(.int .i64 0), (.int .i64 0), (.slice none 0 0)] (0, 0) _ rfl (HS.out.at (i := 0) rfl) Try.underlying32 rfl (by kernel_rfl)) rfl ?_
    exact ⟨none, 0, rfl, nilS (HS.out.sel [] (by decide))⟩
  | true =>
    have HX := Aside0.mk (isS_t h)
    have hlev := isS_l h
    obtain ⟨d, n, rfl, rfl, hd1, hd3, hn1, hn5⟩ := lev_nat hlev
    have HL := Aside0.mk hlev
    clear hlev
    rw [Int.toNat_natCast, Int.toNat_natCast] at HX ⊢
    cases h2 : inR k 0 12 with
    | false =>
      go_enter Try.func74, Try.ntmps74
      go_wp2_with (first | ((with_reducible refine gate_dst (N := 2) rfl ?_); refine bxL 32 #[.int .i64 (d : Int), .int .i64 (n : Int), .slice A l.length c] HS ?_; clear HS; intro g_p w1 hg_p HS) | ((with_reducible refine gate_dst (N := 4) rfl ?_); refine bxL 32 #[(.int .i64 0), (.int .i64 0), (.slice none 0 0)] HS ?_; clear HS; intro g_r w1 hg_r HS; have f1_ := HS.out.c 1 0 (v := .int .i64 (d : Int)) rfl rfl; have f2_ := HS.out.c 1 1 (v := .int .i64 (n : Int)) rfl rfl; have f3_ := HS.out.c 1 2 (v := .slice A l.length c) rfl rfl) | (go_at_call 42; refine (implIs d n A c l _ (HS.out.oldC HR.out) hc HB.out).mono ?_; rintro e_ w1 ⟨rfl, hb⟩; replace HS := sB HS hb; clear hb f1_ f2_ f3_) | (go_at_call 102; refine (implInB _ _ _ _).mono ?_; rintro e_ w1 ⟨rfl, hb⟩; replace HS := sB HS hb; clear hb) | ((with_reducible refine gate_store (t := 32) (p := 4) rfl ?_); refine stL HS 0 0 #[(.int .i64 0), (.int .i64 0), (.slice none 0 0)] rfl rfl rfl rfl rfl ?_; clear HS; intro w1 HS))
      refine bodyPost_ret (results_cell_tmp_row rfl _ _ g_r 32 #[(.int .i64 0), (.int .i64 0), (.slice none 0 0)] (0, 0) _ rfl (HS.out.at (i := 0) rfl) Try.underlying32 rfl (by kernel_rfl)) rfl ?_
      exact ⟨none, 0, rfl, nilS (HS.out.sel [] (by decide))⟩
    | true =>
      have h3 := (inR_iff _ _ _).1 h2
      obtain ⟨kk, rfl⟩ : ∃ kk : Nat, k = kk := ⟨k.toNat, by omega⟩
      rw [Int.toNat_natCast, if_pos rfl, if_pos rfl]
      have hkk : kk ≤ 12 := by omega
      clear h3
      go_enter Try.func74, Try.ntmps74
      go_wp2_with (first | ((with_reducible refine gate_dst (N := 2) rfl ?_); refine bxL 32 #[.int .i64 (d : Int), .int .i64 (n : Int), .slice A l.length c] HS ?_; clear HS; intro g_p w1 hg_p HS) | ((with_reducible refine gate_dst (N := 4) rfl ?_); refine bxL 32 #[(.int .i64 0), (.int .i64 0), (.slice none 0 0)] HS ?_; clear HS; intro g_r w1 hg_r HS; have f1_ := HS.out.c 1 0 (v := .int .i64 (d : Int)) rfl rfl; have f2_ := HS.out.c 1 1 (v := .int .i64 (n : Int)) rfl rfl; have f3_ := HS.out.c 1 2 (v := .slice A l.length c) rfl rfl) | (go_at_call 42; refine (implIs d n A c l _ (HS.out.oldC HR.out) hc HB.out).mono ?_; rintro e_ w1 ⟨rfl, hb⟩; replace HS := sB HS hb; clear hb f1_ f2_ f3_) | (go_at_call 102; refine (implInB _ _ _ _).mono ?_; rintro e_ w1 ⟨rfl, hb⟩; replace HS := sB HS hb; clear hb; have f1_ := HS.out.c 1 0 (v := .int .i64 (d : Int)) rfl rfl; have f2_ := HS.out.c 1 1 (v := .int .i64 (n : Int)) rfl rfl; have f3_ := HS.out.c 1 2 (v := .slice A l.length c) rfl rfl) | (go_at_call 126; refine (tabOpen A c l _ HL.out (HS.out.oldC HR.out) HX.out).mono ?_; rintro e_ w1 ⟨g, v, F, rfl, hF, hQ, hs⟩; replace HS := sN2 HS hs; clear hs f1_ f2_ f3_; have HF1 := Aside0.mk hF; have HQ1 := Aside0.mk hQ; clear hF hQ) | (go_at_call 153; refine (tabPower HL.out ⟨HF1.out, HQ1.out, HS.out.at (i := 0) rfl, HS.out.at (i := 1) rfl⟩ kk hkk).mono ?_; rintro e_ w1 ⟨g3, v3, F3, rfl, hF, hQ, hs⟩; replace HS := sN2 HS hs; clear hs; have HF3 := Aside0.mk hF; have HQ3 := Aside0.mk hQ; clear hF hQ) | (go_at_call 116; refine (tabTold HL.out ⟨HF3.out, HQ3.out, HS.out.at (i := 0) rfl, HS.out.at (i := 1) rfl⟩).mono ?_; rintro e_ w1 ⟨B, b, rfl, hs⟩; replace HS := sN1 HS hs; clear hs) | ((with_reducible refine gate_store (t := 32) (p := 4) rfl ?_); refine stL HS 5 0 #[.int .i64 (resO d n (powO d n (some l) kk)).1, .int .i64 (resO d n (powO d n (some l) kk)).2.1, .slice B (resO d n (powO d n (some l) kk)).2.2.1.length b] rfl rfl rfl rfl rfl ?_; clear HS; intro w1 HS))
      refine bodyPost_ret (results_cell_tmp_row rfl _ _ g_r 32 #[.int .i64 (resO d n (powO d n (some l) kk)).1, .int .i64 (resO d n (powO d n (some l) kk)).2.1, .slice B (resO d n (powO d n (some l) kk)).2.2.1.length b] (0, 0) _ rfl (HS.out.at (i := 5) rfl) Try.underlying32 rfl (by kernel_rfl)) rfl ?_
      exact ⟨B, b, rfl, HS.out.sel [0] (by decide)⟩
end Go.Proofs.Ytcklblagklojhaa.H

