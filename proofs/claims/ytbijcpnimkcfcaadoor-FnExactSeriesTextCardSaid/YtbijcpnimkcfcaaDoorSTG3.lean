/- Plain facts and contracts of functions that the law's walk uses. Conditions: those that stand in each statement. -/
import Derived.Test.YtbijcpnimkcfcaaDoorSTG1
import Derived.WalkLawsBesides
import Derived.Test.YtbijcpnimkcfcaaDoorSTG2
set_option linter.unusedVariables false
set_option linter.unusedSimpArgs false
namespace Go.Proofs.YtbijcpnimkcfcaaDoor.M
theorem cmp_neg : ∀ (a b : List UInt8), Lib.compareBytes a b < 0 ↔ bless a b = true
  | [], [] => by simp [Lib.compareBytes, bless, Go.Op.bytesLess]
  | [], _ :: _ => by simp [Lib.compareBytes, bless, Go.Op.bytesLess]
  | _ :: _, [] => by simp [Lib.compareBytes, bless, Go.Op.bytesLess]
  | a :: x, b :: y => by
    have ih := cmp_neg x y
    simp only [Lib.compareBytes, bless, Go.Op.bytesLess] at ih ⊢
    by_cases h : a < b
    · simp [h]
    · rw [if_neg h]
      by_cases k : b < a
      · rw [if_pos k]
        have : ¬ a = b := fun e => by subst e; exact absurd k (UInt8.lt_irrefl _)
        simp [h, this]
      · rw [if_neg k]
        have e : a = b := UInt8.toNat_inj.1 (by rw [UInt8.lt_iff_toNat_lt] at h k; omega)
        subst e
        simp [ih, h]
theorem bef_same {a b : ByteArray} (h : a.size = b.size) : bef a b = bless (bl a) (bl b) := by unfold bef befL; rw [bl_len, bl_len, if_pos h]
theorem bef_other {a b : ByteArray} (h : a.size ≠ b.size) : bef a b = decide (a.size < b.size) := by unfold bef befL; rw [bl_len, bl_len, if_neg h]
end Go.Proofs.YtbijcpnimkcfcaaDoor.M
namespace Go.Proofs.YtbijcpnimkcfcaaDoor.H
open Go.RowKit Go.Proofs.YtbijcpnimkcfcaaDoorW.PrintWords Go.Proofs.YtbijcpnimkcfcaaDoorW.PrintLast Go.Proofs.YtbijcpnimkcfcaaDoorW.PrintMore Go.Proofs.YtbijcpnimkcfcaaDoor.M
attribute [local go_sem] max2_int min2_int max_two min_two max_three min_three max_four min_four
set_option linter.unusedVariables false
set_option linter.unusedSimpArgs false
def okAt (d n : Nat) (l : Ts) (j : Nat) : Bool := isTm d n (l.getD j zT) && (decide (j = 0) || bef (l.getD (j - 1) zT).1 (l.getD j zT).1)
theorem isTs_ok {d n : Nat} {l : Ts} : isTs d n l = true ↔ ∀ j, j < l.length → okAt d n l j = true := by
  rw [isTs_at]
  constructor
  · intro h j hj
    obtain ⟨h1, h2⟩ := h j hj
    rw [okAt, getD_lt l zT j hj, h1, Bool.true_and, Bool.or_eq_true, decide_eq_true_eq]
    rcases Nat.eq_zero_or_pos j with e | e
    · exact .inl e
    · rw [getD_lt l zT (j - 1) (by omega)]; exact .inr (h2 e)
  · intro h j hj
    have h1 := h j hj
    rw [okAt, getD_lt l zT j hj, Bool.and_eq_true, Bool.or_eq_true, decide_eq_true_eq] at h1
    refine ⟨h1.1, fun h0 => ?_⟩
    rcases h1.2 with e | e
    · omega
    · rwa [getD_lt l zT (j - 1) (by omega)] at e
theorem isTs_no {d n : Nat} {l : Ts} {j : Nat} (hj : j < l.length) (h : okAt d n l j = false) : isTs d n l = false := by
  rw [← Bool.not_eq_true, isTs_ok]
  intro hh
  rw [hh j hj] at h
  cases h
theorem bnd_get {l : Ts} (h : bnd l = true) (j : Nat) : (l.getD j zT).1.size ≤ 1048576 := by
  by_cases hj : j < l.length
  · rw [getD_lt l zT j hj]; exact (bnd_iff.1 h).2 _ (List.getElem_mem _)
  · rw [List.getD_eq_getElem?_getD, List.getElem?_eq_none (by omega)]; show (ByteArray.mk #[]).size ≤ _; decide
theorem okAt_eq (d n : Nat) (l : Ts) (k : Nat) {t : Tm} (ht : t = l.getD k zT) : okAt d n l k = ((isWd d t.1 && (decide (t.1.size ≤ n) && (isFr t.2.1 t.2.2 && decide (t.2.1 ≠ 0)))) && (decide (k = 0) || bef (l.getD (k - 1) zT).1 t.1)) := by subst ht; rfl
set_option maxHeartbeats 1000000 in
theorem specBefore (a b : ByteArray) (w : World) (ha : a.size ≤ 9223372036854775807) (hb : b.size ≤ 9223372036854775807) : Calls Tryd.prog 84 #[.string a, .string b] w fun e w' => e = .returned (.bool (bef a b)) ∧ Below w.heap.size w w' := by
  by_cases h : a.size = b.size
  · have HL := Lib.hid (bef_same h)
    have h1 : ((a.size : Int) != (b.size : Int)) = false := by rw [bne_eq_false_iff_eq]; omega
    clear h
    go_enter Tryd.func84, Tryd.ntmps84
    go_wp2
    go_ret
    exact ⟨ret_bool (by rw [HL.out, ByteArray.toList_eq, ByteArray.toList_eq]; first | done | rfl), Below.refl _ _⟩
  · have HL := Lib.hid (bef_other h)
    have h1 : ((a.size : Int) != (b.size : Int)) = true := by rw [bne_iff_ne]; omega
    clear h
    go_enter Tryd.func84, Tryd.ntmps84
    go_wp2
    go_ret
    exact ⟨ret_bool (by rw [HL.out]; first | done | simp), Below.refl _ _⟩
set_option maxHeartbeats 1000000 in
theorem implCompare (a b : ByteArray) (ha : a.size ≤ 1048576) (hb : b.size ≤ 1048576) (w : World) : Calls Tryd.prog 102 #[.string a, .string b] w fun e w' => (∃ c : Int, e = .returned (.int .i64 c) ∧ decide (0 ≤ c) = !bef a b) ∧ Below w.heap.size w w' := by
  by_cases h : a.size = b.size
  · have HL := Lib.hid (bef_same h)
    have h1 : ((a.size : Int) != (b.size : Int)) = false := by rw [bne_eq_false_iff_eq]; omega
    clear h
    go_enter Tryd.func102, Tryd.ntmps102
    go_wp2_with (first | (go_at_call 114; refine (stringsCompare _ _ _).mono ?_; rintro e w1 ⟨rfl, n_, rfl⟩))
    go_ret
    refine ⟨⟨_, rfl, ?_⟩, pw_below_drewN (Below.refl _ _) _⟩
    rw [HL.out]
    have := cmp_neg (bl a) (bl b)
    cases hh : bless (bl a) (bl b) with
    | true => rw [hh] at this; have := this.2 rfl; unfold bl at this; simp; omega
    | false => rw [hh] at this; have : ¬ _ := fun h => absurd (this.1 h) (by simp); unfold bl at this; simp; omega
  · have HL := Lib.hid (bef_other h)
    have h1 : ((a.size : Int) != (b.size : Int)) = true := by rw [bne_iff_ne]; omega
    clear h
    go_enter Tryd.func102, Tryd.ntmps102
    go_wp2
    go_ret
    exact ⟨⟨_, rfl, by rw [HL.out, ← decide_not]; exact decide_eq_decide.2 (by omega)⟩, Below.refl _ _⟩
theorem lev_nat {d n : Int} (h : lev d n = true) : ∃ d' n' : Nat, d = d' ∧ n = n' ∧ 1 ≤ d' ∧ d' ≤ 3 ∧ 1 ≤ n' ∧ n' ≤ 5 := by
  have := lev_iff.1 h
  exact ⟨d.toNat, n.toNat, by omega, by omega, by omega, by omega, by omega, by omega⟩
theorem isS_lev {d n : Nat} {l : Ts} (h : lev d n = true) : isS d n l = isTs d n l := by unfold isS; rw [h]; rfl
theorem isS_no {d n : Int} {l : Ts} (h : lev d n = false) : isS d n l = false := by unfold isS; rw [h]; rfl
set_option maxRecDepth 100000 in
set_option maxHeartbeats 8000000 in
theorem specIs (d n : Int) (A : Option Addr) (c : Nat) (l : Ts) (w : World) (hr : KT.C w A l.length l) (hc : l.length ≤ c) (hb : bnd l = true) :
    Calls Tryd.prog 44 #[.agg #[.int .i64 d, .int .i64 n, .slice A l.length c]] w fun e w' => e = .returned (.bool (isS d n l)) ∧ Below w.heap.size w w' := by
  have HR := Aside0.mk hr
  have HN := Aside0.mk hb
  have hll := (bnd_iff.1 hb).1
  have HS := Aside0.mk (Sep.refl w)
  clear hr hb
  cases hlev : lev d n with
  | false =>
    rw [isS_no hlev]
    go_enter Tryd.func44, Tryd.ntmps44
    go_wp2_with (first | ((with_reducible refine gate_dst (N := 1) rfl ?_); refine bxL 36 #[.int .i64 d, .int .i64 n, .slice A l.length c] HS ?_; clear HS; intro g_x w1 hg_x HS; have f1_ := HS.out.c 0 0 (v := .int .i64 d) rfl rfl; have f2_ := HS.out.c 0 1 (v := .int .i64 n) rfl rfl) | (go_at_call 53; refine (specSizes _ _ _).mono ?_; rintro e_ w1 ⟨rfl, hb⟩; replace HS := sB HS hb; clear hb f1_ f2_))
    go_ret
    exact ⟨rfl, HS.out.below⟩
  | true =>
    obtain ⟨d, n, rfl, rfl, hd1, hd3, hn1, hn5⟩ := lev_nat hlev
    rw [isS_lev hlev]
    go_enter Tryd.func44, Tryd.ntmps44
    go_wp2_with (first | ((with_reducible refine gate_dst (N := 1) rfl ?_); refine bxL 36 #[.int .i64 (d : Int), .int .i64 (n : Int), .slice A l.length c] HS ?_; clear HS; intro g_x w1 hg_x HS; have f1_ := HS.out.c 0 0 (v := .int .i64 (d : Int)) rfl rfl; have f2_ := HS.out.c 0 1 (v := .int .i64 (n : Int)) rfl rfl) | (go_at_call 53; refine (specSizes _ _ _).mono ?_; rintro e_ w1 ⟨rfl, hb⟩; replace HS := sB HS hb; clear hb f1_ f2_))
    clear hlev
    go_loopw [3] (fun v w' => ∃ k : Nat, k ≤ l.length ∧ v = .int .i64 (k : Int) ∧ Aside0 (∀ j, j < k → okAt d n l j = true) ∧ Aside0 (Mod w w' No [bx g_x 36 #[.int .i64 (d : Int), .int .i64 (n : Int), .slice A l.length c]])) (fun v _ => l.length - (intOf v).toNat)
    case atStart => exact ⟨0, by omega, rfl, ⟨fun j hj => by omega⟩, HS⟩
    case round =>
      clear HS
      obtain ⟨k, hk, rfl, HY, HS⟩ := hrel
      by_cases hlt : k < l.length
      · have hs1 := bnd_get HN.out k
        obtain ⟨ad_A, ea_, h0_, h1_, h2_⟩ := tm_at HR.out k (hlt)
        cases ea_
        obtain ⟨t, ht_⟩ : ∃ t_, t_ = l.getD k zT := ⟨_, rfl⟩
        rw [← ht_] at h0_ h1_ h2_
        have Et := Aside0.mk ht_; have H0t := Aside0.mk h0_; have H1t := Aside0.mk h1_; have H2t := Aside0.mk h2_
        clear ht_ h0_ h1_ h2_
        have HK := Aside0.mk (okAt_eq d n l k Et.out)
        have HNO := Aside0.mk (@isTs_no d n l k hlt)
        rw [← Et.out] at hs1
        have hsz : t.1.size ≤ 9223372036854775807 := by omega
        by_cases h1 : n < t.1.size
        · have HZ := Aside0.mk (show decide (t.1.size ≤ n) = false from decide_eq_false (by omega))
          have f1_ := HS.out.c 0 2 (v := .slice (some ad_A) l.length c) rfl rfl
          have f2_ := HS.out.old H0t.out
          have f3_ := HS.out.old H1t.out
          have f4_ := HS.out.old H2t.out
          go_wp2_with (first | ((with_reducible refine gate_dst (N := 4) rfl ?_); refine bxL 78 #[(.string ⟨#[]⟩), (.int .i64 0), (.int .i64 0)] HS ?_; clear HS f1_ f2_ f3_ f4_; intro g_t w1 hg_t HS) | ((with_reducible refine gate_store (t := 78) (p := 4) rfl ?_); refine stL HS 0 0 #[.string t.1, .int .i64 t.2.1, .int .i64 t.2.2] rfl rfl rfl rfl rfl ?_; clear HS; intro w1 HS; have f1_ := HS.out.c 0 0 (v := .string t.1) rfl rfl; have f2_ := HS.out.c 1 1 (v := .int .i64 (n : Int)) rfl rfl))
          go_ret
          exact ⟨ret_bool (HNO.out (by rw [HK.out, HZ.out]; simp)).symm, HS.out.below⟩
        · have HZ := Aside0.mk (show decide (t.1.size ≤ n) = true from decide_eq_true (by omega))
          cases h2 : isWd d t.1 with
          | false =>
            have f1_ := HS.out.c 0 2 (v := .slice (some ad_A) l.length c) rfl rfl
            have f2_ := HS.out.old H0t.out
            have f3_ := HS.out.old H1t.out
            have f4_ := HS.out.old H2t.out
            go_wp2_with (first | ((with_reducible refine gate_dst (N := 4) rfl ?_); refine bxL 78 #[(.string ⟨#[]⟩), (.int .i64 0), (.int .i64 0)] HS ?_; clear HS f1_ f2_ f3_ f4_; intro g_t w1 hg_t HS) | ((with_reducible refine gate_store (t := 78) (p := 4) rfl ?_); refine stL HS 0 0 #[.string t.1, .int .i64 t.2.1, .int .i64 t.2.2] rfl rfl rfl rfl rfl ?_; clear HS; intro w1 HS; have f1_ := HS.out.c 0 0 (v := .string t.1) rfl rfl; have f2_ := HS.out.c 1 1 (v := .int .i64 (n : Int)) rfl rfl; have f3_ := HS.out.c 1 0 (v := .int .i64 (d : Int)) rfl rfl) | (go_at_call 83; refine (specWord d (by omega) _ hsz _).mono ?_; rintro e_ w1 ⟨rfl, hb⟩; replace HS := sB HS hb; clear hb f1_ f2_ f3_))
            go_ret
            exact ⟨ret_bool (HNO.out (by rw [HK.out, h2]; simp)).symm, HS.out.below⟩
          | true =>
            cases h3 : isFr t.2.1 t.2.2 with
            | false =>
              have f1_ := HS.out.c 0 2 (v := .slice (some ad_A) l.length c) rfl rfl
              have f2_ := HS.out.old H0t.out
              have f3_ := HS.out.old H1t.out
              have f4_ := HS.out.old H2t.out
              go_wp2_with (first | ((with_reducible refine gate_dst (N := 4) rfl ?_); refine bxL 78 #[(.string ⟨#[]⟩), (.int .i64 0), (.int .i64 0)] HS ?_; clear HS f1_ f2_ f3_ f4_; intro g_t w1 hg_t HS) | ((with_reducible refine gate_store (t := 78) (p := 4) rfl ?_); refine stL HS 0 0 #[.string t.1, .int .i64 t.2.1, .int .i64 t.2.2] rfl rfl rfl rfl rfl ?_; clear HS; intro w1 HS; have f1_ := HS.out.c 0 0 (v := .string t.1) rfl rfl; have f2_ := HS.out.c 1 1 (v := .int .i64 (n : Int)) rfl rfl; have f3_ := HS.out.c 1 0 (v := .int .i64 (d : Int)) rfl rfl) | (go_at_call 83; refine (specWord d (by omega) _ hsz _).mono ?_; rintro e_ w1 ⟨rfl, hb⟩; replace HS := sB HS hb; clear hb f1_ f2_ f3_; have f1_ := HS.out.c 0 1 (v := .int .i64 t.2.1) rfl rfl; have f2_ := HS.out.c 0 2 (v := .int .i64 t.2.2) rfl rfl) | (go_at_call 40; refine (specIsFrac _ _ _).mono ?_; rintro e_ w1 ⟨rfl, hb⟩; replace HS := sB HS hb; clear hb f1_ f2_))
              go_ret
              exact ⟨ret_bool (HNO.out (by rw [HK.out, h3]; simp)).symm, HS.out.below⟩
            | true =>
              cases h4 : (t.2.1 == 0) with
              | true =>
                have f1_ := HS.out.c 0 2 (v := .slice (some ad_A) l.length c) rfl rfl
                have f2_ := HS.out.old H0t.out
                have f3_ := HS.out.old H1t.out
                have f4_ := HS.out.old H2t.out
                go_wp2_with (first | ((with_reducible refine gate_dst (N := 4) rfl ?_); refine bxL 78 #[(.string ⟨#[]⟩), (.int .i64 0), (.int .i64 0)] HS ?_; clear HS f1_ f2_ f3_ f4_; intro g_t w1 hg_t HS) | ((with_reducible refine gate_store (t := 78) (p := 4) rfl ?_); refine stL HS 0 0 #[.string t.1, .int .i64 t.2.1, .int .i64 t.2.2] rfl rfl rfl rfl rfl ?_; clear HS; intro w1 HS; have f1_ := HS.out.c 0 0 (v := .string t.1) rfl rfl; have f2_ := HS.out.c 1 1 (v := .int .i64 (n : Int)) rfl rfl; have f3_ := HS.out.c 1 0 (v := .int .i64 (d : Int)) rfl rfl) | (go_at_call 83; refine (specWord d (by omega) _ hsz _).mono ?_; rintro e_ w1 ⟨rfl, hb⟩; replace HS := sB HS hb; clear hb f1_ f2_ f3_; have f1_ := HS.out.c 0 1 (v := .int .i64 t.2.1) rfl rfl; have f2_ := HS.out.c 0 2 (v := .int .i64 t.2.2) rfl rfl) | (go_at_call 40; refine (specIsFrac _ _ _).mono ?_; rintro e_ w1 ⟨rfl, hb⟩; replace HS := sB HS hb; clear hb f1_ f2_; have f1_ := HS.out.c 0 1 (v := .int .i64 t.2.1) rfl rfl; have f2_ := HS.out.c 0 2 (v := .int .i64 t.2.2) rfl rfl) | (go_at_call 72; refine (specZero _ _ _).mono ?_; rintro e_ w1 ⟨rfl, hb⟩; replace HS := sB HS hb; clear hb f1_ f2_))
                go_ret
                exact ⟨ret_bool (HNO.out (by rw [HK.out, decide_eq_false (p := t.2.1 ≠ 0) (by simpa using h4)]; simp)).symm, HS.out.below⟩
              | false =>
                have HQ := Aside0.mk (show okAt d n l k = (decide (k = 0) || bef (l.getD (k - 1) zT).1 t.1) by rw [HK.out, h2, HZ.out, h3, decide_eq_true (p := t.2.1 ≠ 0) (by simpa using h4)]; rfl)
                by_cases hk0 : k = 0
                · have c0 : decide (0 < (k : Int)) = false := by rw [hk0]; rfl
                  have c1 : decide (0 < k) = false := by rw [hk0]; rfl
                  have HK0 := Aside0.mk hk0
                  clear hk0
                  have f1_ := HS.out.c 0 2 (v := .slice (some ad_A) l.length c) rfl rfl
                  have f2_ := HS.out.old H0t.out
                  have f3_ := HS.out.old H1t.out
                  have f4_ := HS.out.old H2t.out
                  go_wp2_with (first | ((with_reducible refine gate_dst (N := 4) rfl ?_); refine bxL 78 #[(.string ⟨#[]⟩), (.int .i64 0), (.int .i64 0)] HS ?_; clear HS f1_ f2_ f3_ f4_; intro g_t w1 hg_t HS) | ((with_reducible refine gate_store (t := 78) (p := 4) rfl ?_); refine stL HS 0 0 #[.string t.1, .int .i64 t.2.1, .int .i64 t.2.2] rfl rfl rfl rfl rfl ?_; clear HS; intro w1 HS; have f1_ := HS.out.c 0 0 (v := .string t.1) rfl rfl; have f2_ := HS.out.c 1 1 (v := .int .i64 (n : Int)) rfl rfl; have f3_ := HS.out.c 1 0 (v := .int .i64 (d : Int)) rfl rfl) | (go_at_call 83; refine (specWord d (by omega) _ hsz _).mono ?_; rintro e_ w1 ⟨rfl, hb⟩; replace HS := sB HS hb; clear hb f1_ f2_ f3_; have f1_ := HS.out.c 0 1 (v := .int .i64 t.2.1) rfl rfl; have f2_ := HS.out.c 0 2 (v := .int .i64 t.2.2) rfl rfl) | (go_at_call 40; refine (specIsFrac _ _ _).mono ?_; rintro e_ w1 ⟨rfl, hb⟩; replace HS := sB HS hb; clear hb f1_ f2_; have f1_ := HS.out.c 0 1 (v := .int .i64 t.2.1) rfl rfl; have f2_ := HS.out.c 0 2 (v := .int .i64 t.2.2) rfl rfl) | (go_at_call 72; refine (specZero _ _ _).mono ?_; rintro e_ w1 ⟨rfl, hb⟩; replace HS := sB HS hb; clear hb f1_ f2_))
                  replace HS := sD HS
                  refine ps (.p 0 (.p 1 (.p 2 (.p 3 (.p 4 (.p 5 (.p 6 (.p 7 (.p 8 (.p 9 (.p 10 (.p 11 (.p 12 (.p 13 (.p 14 .done))))))))))))))) (fun w' => True) [] trivial (fun hHeld => ?_)
                  repeat (first | ((with_reducible refine gate_p ?_); refine rp rfl rfl ?_) | ((with_reducible refine gate_p ?_); refine rp0 rfl rfl ?_))
                  refine run_done ?_
                  clear hHeld
                  go_wp2
                  replace HS : Aside0 (Mod _ _ _ [_]) := sX HS [1]
                  go_roundw
                  case rel => exact ⟨k + 1, by omega, by go_num, ⟨round_next HY.out (by rw [HQ.out, decide_eq_true HK0.out]; rfl)⟩, HS⟩
                  case measure => simp [intOf]; omega
                · obtain ⟨q, rfl⟩ : ∃ q, k = q + 1 := ⟨k - 1, by omega⟩
                  clear hk0
                  have c0 : decide (0 < ((q + 1 : Nat) : Int)) = true := decide_eq_true (by omega)
                  have c1 : decide (0 < q + 1) = true := decide_eq_true (by omega)
                  have hs2 := bnd_get HN.out q
                  obtain ⟨adn_, ea_, h0_, h1_, h2_⟩ := tm_at HR.out q ((by omega))
                  cases ea_
                  obtain ⟨p, ht_⟩ : ∃ t_, t_ = l.getD q zT := ⟨_, rfl⟩
                  rw [← ht_] at h0_ h1_ h2_
                  have Ep := Aside0.mk ht_; have H0p := Aside0.mk h0_; have H1p := Aside0.mk h1_; have H2p := Aside0.mk h2_
                  clear ht_ h0_ h1_ h2_
                  rw [← Ep.out] at hs2
                  rw [show q + 1 - 1 = q by omega, ← Ep.out] at HQ
                  have hq0 : (0 : Int) ≤ q := by omega
                  have hq1 : (q : Int) < l.length := by omega
                  have HW := Aside0.mk (show IntKind.i64.wrap (q : Int) = (q : Int) from IntWalk.i64_in _ (by omega))
                  have hsp : p.1.size ≤ 9223372036854775807 := by omega
                  cases h5 : bef p.1 t.1 with
                  | false =>
                    have f1_ := HS.out.c 0 2 (v := .slice (some ad_A) l.length c) rfl rfl
                    have f2_ := HS.out.old H0t.out
                    have f3_ := HS.out.old H1t.out
                    have f4_ := HS.out.old H2t.out
                    go_wp2_with (first | ((with_reducible refine gate_dst (N := 4) rfl ?_); refine bxL 78 #[(.string ⟨#[]⟩), (.int .i64 0), (.int .i64 0)] HS ?_; clear HS f1_ f2_ f3_ f4_; intro g_t w1 hg_t HS) | ((with_reducible refine gate_store (t := 78) (p := 4) rfl ?_); refine stL HS 0 0 #[.string t.1, .int .i64 t.2.1, .int .i64 t.2.2] rfl rfl rfl rfl rfl ?_; clear HS; intro w1 HS; have f1_ := HS.out.c 0 0 (v := .string t.1) rfl rfl; have f2_ := HS.out.c 1 1 (v := .int .i64 (n : Int)) rfl rfl; have f3_ := HS.out.c 1 0 (v := .int .i64 (d : Int)) rfl rfl) | (go_at_call 83; refine (specWord d (by omega) _ hsz _).mono ?_; rintro e_ w1 ⟨rfl, hb⟩; replace HS := sB HS hb; clear hb f1_ f2_ f3_; have f1_ := HS.out.c 0 1 (v := .int .i64 t.2.1) rfl rfl; have f2_ := HS.out.c 0 2 (v := .int .i64 t.2.2) rfl rfl) | (go_at_call 40; refine (specIsFrac _ _ _).mono ?_; rintro e_ w1 ⟨rfl, hb⟩; replace HS := sB HS hb; clear hb f1_ f2_; have f1_ := HS.out.c 0 1 (v := .int .i64 t.2.1) rfl rfl; have f2_ := HS.out.c 0 2 (v := .int .i64 t.2.2) rfl rfl) | (go_at_call 72; refine (specZero _ _ _).mono ?_; rintro e_ w1 ⟨rfl, hb⟩; replace HS := sB HS hb; clear hb f1_ f2_))
                    have hw1 := HW.out
                    have hw2 := (i64_w _).symm.trans HW.out
                    replace HS := sD HS
                    refine ps (.p 0 (.p 1 (.p 2 (.p 3 (.p 5 (.p 6 (.p 10 (.t 4 (.p 7 (.p 8 (.t 9 (.t 11 (.d 12 (.p 13 (.p 14 .done))))))))))))))) (fun w' => w'.cell? ⟨g_x, 2, none⟩ = some (.slice (some ad_A) l.length c) ∧ w'.cell? (ad_A.add (q * 3)) = some (.string p.1) ∧ w'.cell? ⟨g_t, 0, none⟩ = some (.string t.1)) [12] ⟨HS.out.c 1 2 (v := .slice (some ad_A) l.length c) rfl rfl, HS.out.old H0p.out, HS.out.c 0 0 (v := .string t.1) rfl rfl⟩ (fun hHeld => ?_)
                    repeat (first | ((with_reducible refine gate_p ?_); refine rp rfl rfl ?_) | ((with_reducible refine gate_t ?_); refine rt rfl rfl hHeld ?_))
                    refine run_d rfl (fun K hK => ?_)
                    refine gc Tryd.func84 (specBefore _ _ _ hsp hsz) rfl rfl ?_
                    rintro e_ w1 ⟨rfl, hb⟩
                    refine ⟨_, rfl, ?_⟩
                    replace HS := sB HS hb
                    clear hb
                    refine gd hK ?_
                    clear hK K
                    repeat (first | ((with_reducible refine gate_p ?_); refine rp rfl rfl ?_) | ((with_reducible refine gate_t ?_); refine rt rfl rfl hHeld ?_))
                    refine run_done ?_
                    clear hHeld
                    clear hw1 hw2
                    go_wp2
                    go_ret
                    exact ⟨ret_bool (HNO.out (by rw [HQ.out, h5]; simp)).symm, HS.out.below⟩
                  | true =>
                    have f1_ := HS.out.c 0 2 (v := .slice (some ad_A) l.length c) rfl rfl
                    have f2_ := HS.out.old H0t.out
                    have f3_ := HS.out.old H1t.out
                    have f4_ := HS.out.old H2t.out
                    go_wp2_with (first | ((with_reducible refine gate_dst (N := 4) rfl ?_); refine bxL 78 #[(.string ⟨#[]⟩), (.int .i64 0), (.int .i64 0)] HS ?_; clear HS f1_ f2_ f3_ f4_; intro g_t w1 hg_t HS) | ((with_reducible refine gate_store (t := 78) (p := 4) rfl ?_); refine stL HS 0 0 #[.string t.1, .int .i64 t.2.1, .int .i64 t.2.2] rfl rfl rfl rfl rfl ?_; clear HS; intro w1 HS; have f1_ := HS.out.c 0 0 (v := .string t.1) rfl rfl; have f2_ := HS.out.c 1 1 (v := .int .i64 (n : Int)) rfl rfl; have f3_ := HS.out.c 1 0 (v := .int .i64 (d : Int)) rfl rfl) | (go_at_call 83; refine (specWord d (by omega) _ hsz _).mono ?_; rintro e_ w1 ⟨rfl, hb⟩; replace HS := sB HS hb; clear hb f1_ f2_ f3_; have f1_ := HS.out.c 0 1 (v := .int .i64 t.2.1) rfl rfl; have f2_ := HS.out.c 0 2 (v := .int .i64 t.2.2) rfl rfl) | (go_at_call 40; refine (specIsFrac _ _ _).mono ?_; rintro e_ w1 ⟨rfl, hb⟩; replace HS := sB HS hb; clear hb f1_ f2_; have f1_ := HS.out.c 0 1 (v := .int .i64 t.2.1) rfl rfl; have f2_ := HS.out.c 0 2 (v := .int .i64 t.2.2) rfl rfl) | (go_at_call 72; refine (specZero _ _ _).mono ?_; rintro e_ w1 ⟨rfl, hb⟩; replace HS := sB HS hb; clear hb f1_ f2_))
                    have hw1 := HW.out
                    have hw2 := (i64_w _).symm.trans HW.out
                    replace HS := sD HS
                    refine ps (.p 0 (.p 1 (.p 2 (.p 3 (.p 5 (.p 6 (.p 10 (.t 4 (.p 7 (.p 8 (.t 9 (.t 11 (.d 12 (.p 13 (.p 14 .done))))))))))))))) (fun w' => w'.cell? ⟨g_x, 2, none⟩ = some (.slice (some ad_A) l.length c) ∧ w'.cell? (ad_A.add (q * 3)) = some (.string p.1) ∧ w'.cell? ⟨g_t, 0, none⟩ = some (.string t.1)) [12] ⟨HS.out.c 1 2 (v := .slice (some ad_A) l.length c) rfl rfl, HS.out.old H0p.out, HS.out.c 0 0 (v := .string t.1) rfl rfl⟩ (fun hHeld => ?_)
                    repeat (first | ((with_reducible refine gate_p ?_); refine rp rfl rfl ?_) | ((with_reducible refine gate_t ?_); refine rt rfl rfl hHeld ?_))
                    refine run_d rfl (fun K hK => ?_)
                    refine gc Tryd.func84 (specBefore _ _ _ hsp hsz) rfl rfl ?_
                    rintro e_ w1 ⟨rfl, hb⟩
                    refine ⟨_, rfl, ?_⟩
                    replace HS := sB HS hb
                    clear hb
                    refine gd hK ?_
                    clear hK K
                    repeat (first | ((with_reducible refine gate_p ?_); refine rp rfl rfl ?_) | ((with_reducible refine gate_t ?_); refine rt rfl rfl hHeld ?_))
                    refine run_done ?_
                    clear hHeld
                    clear hw1 hw2
                    go_wp2
                    replace HS : Aside0 (Mod _ _ _ [_]) := sX HS [1]
                    go_roundw
                    case rel => exact ⟨q + 1 + 1, by omega, by go_num, ⟨round_next HY.out (by rw [HQ.out, h5]; simp)⟩, HS⟩
                    case measure => simp [intOf]; omega
      · have HE := Aside0.mk (isTs_ok.2 (fun j hj => HY.out j (by omega)))
        have f1_ := HS.out.c 0 2 (v := .slice A l.length c) rfl rfl
        go_wp2
        go_ret
        exact ⟨ret_bool HE.out.symm, HS.out.below⟩
end Go.Proofs.YtbijcpnimkcfcaaDoor.H
namespace Go.Proofs.YtbijcpnimkcfcaaDoor.H
open Go.RowKit Go.Proofs.YtbijcpnimkcfcaaDoorW.PrintWords Go.Proofs.YtbijcpnimkcfcaaDoorW.PrintLast Go.Proofs.YtbijcpnimkcfcaaDoorW.PrintMore Go.Proofs.YtbijcpnimkcfcaaDoor.M
attribute [local go_sem] max2_int min2_int max_two min_two max_three min_three max_four min_four
set_option linter.unusedVariables false
set_option linter.unusedSimpArgs false
set_option maxRecDepth 100000 in
set_option maxHeartbeats 8000000 in
theorem implTerms (d n : Nat) (hd : 1 ≤ d ∧ d ≤ 3) (hn : n ≤ 5) (A : Option Addr) (c : Nat) (l : Ts) (w : World) (hr : KT.C w A l.length l) (hb : bnd l = true) :
    Calls Tryd.prog 86 #[.int .i64 (d : Int), .int .i64 (n : Int), .slice A l.length c] w fun e w' => e = .returned (.bool (isTs d n l)) ∧ Below w.heap.size w w' := by
  have HR := Aside0.mk hr
  have HN := Aside0.mk hb
  have hll := (bnd_iff.1 hb).1
  have HS := Aside0.mk (Sep.refl w)
  clear hr hb
  go_enter Tryd.func86, Tryd.ntmps86
  go_wp2
  go_loopw [11] (fun v w' => ∃ k : Nat, k ≤ l.length ∧ v = .int .i64 (k : Int) ∧ Aside0 (∀ j, j < k → okAt d n l j = true) ∧ Aside0 (Mod w w' No [])) (fun v _ => l.length - (intOf v).toNat)
  case atStart => exact ⟨0, by omega, rfl, ⟨fun j hj => by omega⟩, HS⟩
  case round =>
    clear HS
    obtain ⟨k, hk, rfl, HY, HS⟩ := hrel
    by_cases hlt : k < l.length
    · have hs1 := bnd_get HN.out k
      obtain ⟨ad_A, ea_, h0_, h1_, h2_⟩ := tm_at HR.out k (hlt)
      cases ea_
      obtain ⟨t, ht_⟩ : ∃ t_, t_ = l.getD k zT := ⟨_, rfl⟩
      rw [← ht_] at h0_ h1_ h2_
      have Et := Aside0.mk ht_; have H0t := Aside0.mk h0_; have H1t := Aside0.mk h1_; have H2t := Aside0.mk h2_
      clear ht_ h0_ h1_ h2_
      have HK := Aside0.mk (okAt_eq d n l k Et.out)
      have HNO := Aside0.mk (@isTs_no d n l k hlt)
      rw [← Et.out] at hs1
      have hsz : t.1.size ≤ 9223372036854775807 := by omega
      have hd9 : d ≤ 9 := by omega
      cases h1 : (isWd d t.1 && decide (t.1.size ≤ n)) with
      | false =>
        have f1_ := HS.out.old H0t.out
        have f2_ := HS.out.old H1t.out
        have f3_ := HS.out.old H2t.out
        go_wp2_with (first | ((with_reducible refine gate_dst (N := 8) rfl ?_); refine bxL 78 #[(.string ⟨#[]⟩), (.int .i64 0), (.int .i64 0)] HS ?_; clear HS f1_ f2_ f3_; intro g_t w1 hg_t HS) | ((with_reducible refine gate_store (t := 78) (p := 8) rfl ?_); refine stL HS 0 0 #[.string t.1, .int .i64 t.2.1, .int .i64 t.2.2] rfl rfl rfl rfl rfl ?_; clear HS; intro w1 HS))
        replace HS := sD HS
        refine ps (.p 0 (.p 1 (.p 3 (.t 2 (.d 4 (.p 5 (.p 6 (.p 7 (.p 8 (.p 9 (.p 10 (.p 11 (.p 12 (.p 13 (.p 14 (.p 15 (.p 16 (.p 17 (.p 18 (.p 19 (.p 20 (.p 21 (.p 22 (.p 23 (.p 24 (.p 25 (.p 26 (.p 27 (.p 28 (.p 29 (.p 30 (.p 31 (.p 32 (.p 33 .done)))))))))))))))))))))))))))))))))) (fun w' => w'.cell? ⟨g_t, 0, none⟩ = some (.string t.1)) [4] (HS.out.c 0 0 (v := .string t.1) rfl rfl) (fun hHeld => ?_)
        repeat (first | ((with_reducible refine gate_p ?_); refine rp rfl rfl ?_) | ((with_reducible refine gate_p ?_); refine rp0 rfl rfl ?_) | ((with_reducible refine gate_t ?_); refine rt rfl rfl hHeld ?_))
        refine run_d rfl (fun K hK => ?_)
        refine gc Tryd.func101 (implWord d n hd9 _ hsz _) rfl rfl ?_
        rintro e_ w1 ⟨rfl, hb⟩
        refine ⟨_, rfl, ?_⟩
        replace HS := sB HS hb
        clear hb
        refine gd hK ?_
        clear hK K
        repeat (first | ((with_reducible refine gate_p ?_); refine rp rfl rfl ?_) | ((with_reducible refine gate_p ?_); refine rp0 rfl rfl ?_) | ((with_reducible refine gate_t ?_); refine rt rfl rfl hHeld ?_))
        refine run_done ?_
        clear hHeld
        go_wp2
        go_ret
        exact ⟨ret_bool (HNO.out (by rw [HK.out, ← Bool.and_assoc, h1]; simp)).symm, HS.out.below⟩
      | true =>
        cases h3 : isFr t.2.1 t.2.2 with
        | false =>
          have f1_ := HS.out.old H0t.out
          have f2_ := HS.out.old H1t.out
          have f3_ := HS.out.old H2t.out
          go_wp2_with (first | ((with_reducible refine gate_dst (N := 8) rfl ?_); refine bxL 78 #[(.string ⟨#[]⟩), (.int .i64 0), (.int .i64 0)] HS ?_; clear HS f1_ f2_ f3_; intro g_t w1 hg_t HS) | ((with_reducible refine gate_store (t := 78) (p := 8) rfl ?_); refine stL HS 0 0 #[.string t.1, .int .i64 t.2.1, .int .i64 t.2.2] rfl rfl rfl rfl rfl ?_; clear HS; intro w1 HS))
          replace HS := sD HS
          refine ps (.p 0 (.p 1 (.p 3 (.t 2 (.e 4 (.p 5 (.p 6 (.p 7 (.t 8 (.d 9 (.p 10 (.p 11 (.p 12 (.p 13 (.p 14 (.p 15 (.p 16 (.p 17 (.p 18 (.p 19 (.p 20 (.p 21 (.p 22 (.p 23 (.p 24 (.p 25 (.p 26 (.p 27 (.p 28 (.p 29 (.p 30 (.p 31 (.p 32 (.p 33 .done)))))))))))))))))))))))))))))))))) (fun w' => w'.cell? ⟨g_t, 0, none⟩ = some (.string t.1) ∧ w'.cell? ⟨g_t, 1, none⟩ = some (.int .i64 t.2.1) ∧ w'.cell? ⟨g_t, 2, none⟩ = some (.int .i64 t.2.2)) [9] ⟨HS.out.c 0 0 (v := .string t.1) rfl rfl, HS.out.c 0 1 (v := .int .i64 t.2.1) rfl rfl, HS.out.c 0 2 (v := .int .i64 t.2.2) rfl rfl⟩ (fun hHeld => ?_)
          repeat (first | ((with_reducible refine gate_p ?_); refine rp rfl rfl ?_) | ((with_reducible refine gate_p ?_); refine rp0 rfl rfl ?_) | ((with_reducible refine gate_t ?_); refine rt rfl rfl hHeld ?_))
          refine run_e rfl (fun K hK => ?_)
          refine gc Tryd.func101 (implWord d n hd9 _ hsz _) rfl rfl ?_
          rintro e_ w1 ⟨rfl, hb⟩
          refine ⟨_, rfl, ?_⟩
          replace HS := sB HS hb
          clear hb
          refine ge hK ⟨HS.out.c 0 0 (v := .string t.1) rfl rfl, HS.out.c 0 1 (v := .int .i64 t.2.1) rfl rfl, HS.out.c 0 2 (v := .int .i64 t.2.2) rfl rfl⟩ (fun hHeld => ?_)
          clear hK K
          repeat (first | ((with_reducible refine gate_p ?_); refine rp rfl rfl ?_) | ((with_reducible refine gate_p ?_); refine rp0 rfl rfl ?_) | ((with_reducible refine gate_t ?_); refine rt rfl rfl hHeld ?_))
          refine run_d rfl (fun K hK => ?_)
          refine gc Tryd.func27 (implIsFraction _ _ _) rfl rfl ?_
          rintro e_ w1 ⟨rfl, hb⟩
          refine ⟨_, rfl, ?_⟩
          replace HS := sB HS hb
          clear hb
          refine gd hK ?_
          clear hK K
          repeat (first | ((with_reducible refine gate_p ?_); refine rp rfl rfl ?_) | ((with_reducible refine gate_p ?_); refine rp0 rfl rfl ?_) | ((with_reducible refine gate_t ?_); refine rt rfl rfl hHeld ?_))
          refine run_done ?_
          clear hHeld
          go_wp2
          go_ret
          exact ⟨ret_bool (HNO.out (by rw [HK.out, h3]; simp)).symm, HS.out.below⟩
        | true =>
          cases h4 : (t.2.1 == 0) with
          | true =>
            have f1_ := HS.out.old H0t.out
            have f2_ := HS.out.old H1t.out
            have f3_ := HS.out.old H2t.out
            go_wp2_with (first | ((with_reducible refine gate_dst (N := 8) rfl ?_); refine bxL 78 #[(.string ⟨#[]⟩), (.int .i64 0), (.int .i64 0)] HS ?_; clear HS f1_ f2_ f3_; intro g_t w1 hg_t HS) | ((with_reducible refine gate_store (t := 78) (p := 8) rfl ?_); refine stL HS 0 0 #[.string t.1, .int .i64 t.2.1, .int .i64 t.2.2] rfl rfl rfl rfl rfl ?_; clear HS; intro w1 HS))
            replace HS := sD HS
            refine ps (.p 0 (.p 1 (.p 3 (.t 2 (.e 4 (.p 5 (.p 6 (.p 7 (.t 8 (.e 9 (.p 10 (.p 11 (.p 12 (.p 13 (.p 14 (.t 15 (.p 16 (.p 17 (.p 18 (.p 19 (.p 20 (.p 21 (.p 22 (.p 23 (.p 24 (.p 25 (.p 26 (.p 27 (.p 28 (.p 29 (.p 30 (.p 31 (.p 32 (.p 33 .done)))))))))))))))))))))))))))))))))) (fun w' => w'.cell? ⟨g_t, 0, none⟩ = some (.string t.1) ∧ w'.cell? ⟨g_t, 1, none⟩ = some (.int .i64 t.2.1) ∧ w'.cell? ⟨g_t, 2, none⟩ = some (.int .i64 t.2.2)) [] ⟨HS.out.c 0 0 (v := .string t.1) rfl rfl, HS.out.c 0 1 (v := .int .i64 t.2.1) rfl rfl, HS.out.c 0 2 (v := .int .i64 t.2.2) rfl rfl⟩ (fun hHeld => ?_)
            repeat (first | ((with_reducible refine gate_p ?_); refine rp rfl rfl ?_) | ((with_reducible refine gate_p ?_); refine rp0 rfl rfl ?_) | ((with_reducible refine gate_t ?_); refine rt rfl rfl hHeld ?_))
            refine run_e rfl (fun K hK => ?_)
            refine gc Tryd.func101 (implWord d n hd9 _ hsz _) rfl rfl ?_
            rintro e_ w1 ⟨rfl, hb⟩
            refine ⟨_, rfl, ?_⟩
            replace HS := sB HS hb
            clear hb
            refine ge hK ⟨HS.out.c 0 0 (v := .string t.1) rfl rfl, HS.out.c 0 1 (v := .int .i64 t.2.1) rfl rfl, HS.out.c 0 2 (v := .int .i64 t.2.2) rfl rfl⟩ (fun hHeld => ?_)
            clear hK K
            repeat (first | ((with_reducible refine gate_p ?_); refine rp rfl rfl ?_) | ((with_reducible refine gate_p ?_); refine rp0 rfl rfl ?_) | ((with_reducible refine gate_t ?_); refine rt rfl rfl hHeld ?_))
            refine run_e rfl (fun K hK => ?_)
            refine gc Tryd.func27 (implIsFraction _ _ _) rfl rfl ?_
            rintro e_ w1 ⟨rfl, hb⟩
            refine ⟨_, rfl, ?_⟩
            replace HS := sB HS hb
            clear hb
            refine ge hK ⟨HS.out.c 0 0 (v := .string t.1) rfl rfl, HS.out.c 0 1 (v := .int .i64 t.2.1) rfl rfl, HS.out.c 0 2 (v := .int .i64 t.2.2) rfl rfl⟩ (fun hHeld => ?_)
            clear hK K
            repeat (first | ((with_reducible refine gate_p ?_); refine rp rfl rfl ?_) | ((with_reducible refine gate_p ?_); refine rp0 rfl rfl ?_) | ((with_reducible refine gate_t ?_); refine rt rfl rfl hHeld ?_))
            refine run_done ?_
            clear hHeld
            go_wp2
            go_ret
            exact ⟨ret_bool (HNO.out (by rw [HK.out, decide_eq_false (p := t.2.1 ≠ 0) (by simpa using h4)]; simp)).symm, HS.out.below⟩
          | false =>
            have HQ := Aside0.mk (show okAt d n l k = (decide (k = 0) || bef (l.getD (k - 1) zT).1 t.1) by rw [HK.out, ← Bool.and_assoc, h1, h3, decide_eq_true (p := t.2.1 ≠ 0) (by simpa using h4)]; rfl)
            by_cases hk0 : k = 0
            · have c0 : decide (0 < (k : Int)) = false := by rw [hk0]; rfl
              have c1 : decide (0 < k) = false := by rw [hk0]; rfl
              have HK0 := Aside0.mk hk0
              clear hk0
              have f1_ := HS.out.old H0t.out
              have f2_ := HS.out.old H1t.out
              have f3_ := HS.out.old H2t.out
              go_wp2_with (first | ((with_reducible refine gate_dst (N := 8) rfl ?_); refine bxL 78 #[(.string ⟨#[]⟩), (.int .i64 0), (.int .i64 0)] HS ?_; clear HS f1_ f2_ f3_; intro g_t w1 hg_t HS) | ((with_reducible refine gate_store (t := 78) (p := 8) rfl ?_); refine stL HS 0 0 #[.string t.1, .int .i64 t.2.1, .int .i64 t.2.2] rfl rfl rfl rfl rfl ?_; clear HS; intro w1 HS))
              replace HS := sD HS
              refine ps (.p 0 (.p 1 (.p 3 (.t 2 (.e 4 (.p 5 (.p 6 (.p 7 (.t 8 (.e 9 (.p 10 (.p 11 (.p 12 (.p 13 (.p 14 (.t 15 (.p 16 (.p 17 (.p 18 (.p 19 (.p 20 (.p 21 (.p 22 (.p 23 (.p 24 (.p 25 (.p 26 (.p 27 (.p 28 (.p 29 (.p 30 (.p 31 (.p 32 (.p 33 .done)))))))))))))))))))))))))))))))))) (fun w' => w'.cell? ⟨g_t, 0, none⟩ = some (.string t.1) ∧ w'.cell? ⟨g_t, 1, none⟩ = some (.int .i64 t.2.1) ∧ w'.cell? ⟨g_t, 2, none⟩ = some (.int .i64 t.2.2)) [] ⟨HS.out.c 0 0 (v := .string t.1) rfl rfl, HS.out.c 0 1 (v := .int .i64 t.2.1) rfl rfl, HS.out.c 0 2 (v := .int .i64 t.2.2) rfl rfl⟩ (fun hHeld => ?_)
              repeat (first | ((with_reducible refine gate_p ?_); refine rp rfl rfl ?_) | ((with_reducible refine gate_p ?_); refine rp0 rfl rfl ?_) | ((with_reducible refine gate_t ?_); refine rt rfl rfl hHeld ?_))
              refine run_e rfl (fun K hK => ?_)
              refine gc Tryd.func101 (implWord d n hd9 _ hsz _) rfl rfl ?_
              rintro e_ w1 ⟨rfl, hb⟩
              refine ⟨_, rfl, ?_⟩
              replace HS := sB HS hb
              clear hb
              refine ge hK ⟨HS.out.c 0 0 (v := .string t.1) rfl rfl, HS.out.c 0 1 (v := .int .i64 t.2.1) rfl rfl, HS.out.c 0 2 (v := .int .i64 t.2.2) rfl rfl⟩ (fun hHeld => ?_)
              clear hK K
              repeat (first | ((with_reducible refine gate_p ?_); refine rp rfl rfl ?_) | ((with_reducible refine gate_p ?_); refine rp0 rfl rfl ?_) | ((with_reducible refine gate_t ?_); refine rt rfl rfl hHeld ?_))
              refine run_e rfl (fun K hK => ?_)
              refine gc Tryd.func27 (implIsFraction _ _ _) rfl rfl ?_
              rintro e_ w1 ⟨rfl, hb⟩
              refine ⟨_, rfl, ?_⟩
              replace HS := sB HS hb
              clear hb
              refine ge hK ⟨HS.out.c 0 0 (v := .string t.1) rfl rfl, HS.out.c 0 1 (v := .int .i64 t.2.1) rfl rfl, HS.out.c 0 2 (v := .int .i64 t.2.2) rfl rfl⟩ (fun hHeld => ?_)
              clear hK K
              repeat (first | ((with_reducible refine gate_p ?_); refine rp rfl rfl ?_) | ((with_reducible refine gate_p ?_); refine rp0 rfl rfl ?_) | ((with_reducible refine gate_t ?_); refine rt rfl rfl hHeld ?_))
              refine run_done ?_
              clear hHeld
              go_wp2
              replace HS : Aside0 (Mod _ _ _ []) := sX HS []
              go_roundw
              case rel => exact ⟨k + 1, by omega, by go_num, ⟨round_next HY.out (by rw [HQ.out, decide_eq_true HK0.out]; rfl)⟩, HS⟩
              case measure => simp [intOf]; omega
            · obtain ⟨q, rfl⟩ : ∃ q, k = q + 1 := ⟨k - 1, by omega⟩
              clear hk0
              have c0 : decide (0 < ((q + 1 : Nat) : Int)) = true := decide_eq_true (by omega)
              have c1 : decide (0 < q + 1) = true := decide_eq_true (by omega)
              have hs2 := bnd_get HN.out q
              obtain ⟨adn_, ea_, h0_, h1_, h2_⟩ := tm_at HR.out q ((by omega))
              cases ea_
              obtain ⟨p, ht_⟩ : ∃ t_, t_ = l.getD q zT := ⟨_, rfl⟩
              rw [← ht_] at h0_ h1_ h2_
              have Ep := Aside0.mk ht_; have H0p := Aside0.mk h0_; have H1p := Aside0.mk h1_; have H2p := Aside0.mk h2_
              clear ht_ h0_ h1_ h2_
              rw [← Ep.out] at hs2
              rw [show q + 1 - 1 = q by omega, ← Ep.out] at HQ
              have hq0 : (0 : Int) ≤ q := by omega
              have hq1 : (q : Int) < l.length := by omega
              have HW := Aside0.mk (show IntKind.i64.wrap (q : Int) = (q : Int) from IntWalk.i64_in _ (by omega))
              cases h5 : bef p.1 t.1 with
              | false =>
                have f1_ := HS.out.old H0t.out
                have f2_ := HS.out.old H1t.out
                have f3_ := HS.out.old H2t.out
                go_wp2_with (first | ((with_reducible refine gate_dst (N := 8) rfl ?_); refine bxL 78 #[(.string ⟨#[]⟩), (.int .i64 0), (.int .i64 0)] HS ?_; clear HS f1_ f2_ f3_; intro g_t w1 hg_t HS) | ((with_reducible refine gate_store (t := 78) (p := 8) rfl ?_); refine stL HS 0 0 #[.string t.1, .int .i64 t.2.1, .int .i64 t.2.2] rfl rfl rfl rfl rfl ?_; clear HS; intro w1 HS))
                have hw1 := HW.out
                have hw2 := (i64_w _).symm.trans HW.out
                replace HS := sD HS
                refine ps (.p 0 (.p 1 (.p 3 (.t 2 (.e 4 (.p 5 (.p 6 (.p 7 (.t 8 (.e 9 (.p 10 (.p 11 (.p 12 (.p 13 (.p 14 (.t 15 (.p 16 (.p 17 (.p 18 (.p 19 (.p 20 (.p 21 (.p 22 (.p 23 (.p 24 (.p 25 (.p 26 (.p 28 (.t 27 (.t 29 (.d 30 (.p 31 (.p 32 (.p 33 .done)))))))))))))))))))))))))))))))))) (fun w' => w'.cell? ⟨g_t, 0, none⟩ = some (.string t.1) ∧ w'.cell? ⟨g_t, 1, none⟩ = some (.int .i64 t.2.1) ∧ w'.cell? ⟨g_t, 2, none⟩ = some (.int .i64 t.2.2) ∧ w'.cell? (ad_A.add (q * 3)) = some (.string p.1)) [30] ⟨HS.out.c 0 0 (v := .string t.1) rfl rfl, HS.out.c 0 1 (v := .int .i64 t.2.1) rfl rfl, HS.out.c 0 2 (v := .int .i64 t.2.2) rfl rfl, HS.out.old H0p.out⟩ (fun hHeld => ?_)
                repeat (first | ((with_reducible refine gate_p ?_); refine rp rfl rfl ?_) | ((with_reducible refine gate_t ?_); refine rt rfl rfl hHeld ?_))
                refine run_e rfl (fun K hK => ?_)
                refine gc Tryd.func101 (implWord d n hd9 _ hsz _) rfl rfl ?_
                rintro e_ w1 ⟨rfl, hb⟩
                refine ⟨_, rfl, ?_⟩
                replace HS := sB HS hb
                clear hb
                refine ge hK ⟨HS.out.c 0 0 (v := .string t.1) rfl rfl, HS.out.c 0 1 (v := .int .i64 t.2.1) rfl rfl, HS.out.c 0 2 (v := .int .i64 t.2.2) rfl rfl, HS.out.old H0p.out⟩ (fun hHeld => ?_)
                clear hK K
                repeat (first | ((with_reducible refine gate_p ?_); refine rp rfl rfl ?_) | ((with_reducible refine gate_t ?_); refine rt rfl rfl hHeld ?_))
                refine run_e rfl (fun K hK => ?_)
                refine gc Tryd.func27 (implIsFraction _ _ _) rfl rfl ?_
                rintro e_ w1 ⟨rfl, hb⟩
                refine ⟨_, rfl, ?_⟩
                replace HS := sB HS hb
                clear hb
                refine ge hK ⟨HS.out.c 0 0 (v := .string t.1) rfl rfl, HS.out.c 0 1 (v := .int .i64 t.2.1) rfl rfl, HS.out.c 0 2 (v := .int .i64 t.2.2) rfl rfl, HS.out.old H0p.out⟩ (fun hHeld => ?_)
                clear hK K
                repeat (first | ((with_reducible refine gate_p ?_); refine rp rfl rfl ?_) | ((with_reducible refine gate_t ?_); refine rt rfl rfl hHeld ?_))
                refine run_d rfl (fun K hK => ?_)
                refine gc Tryd.func102 (implCompare _ _ hs2 hs1 _) rfl rfl ?_
                rintro e_ w1 ⟨⟨c9, rfl, hc9⟩, hb⟩
                refine ⟨_, rfl, ?_⟩
                replace HS := sB HS hb
                clear hb
                rw [h5] at hc9
                simp only [Bool.not_true, Bool.not_false] at hc9
                refine gd hK ?_
                clear hK K
                repeat (first | ((with_reducible refine gate_p ?_); refine rp rfl rfl ?_) | ((with_reducible refine gate_t ?_); refine rt rfl rfl hHeld ?_))
                refine run_done ?_
                clear hHeld
                clear hw1 hw2
                go_wp2
                go_ret
                exact ⟨ret_bool (HNO.out (by rw [HQ.out, h5]; simp)).symm, HS.out.below⟩
              | true =>
                have f1_ := HS.out.old H0t.out
                have f2_ := HS.out.old H1t.out
                have f3_ := HS.out.old H2t.out
                go_wp2_with (first | ((with_reducible refine gate_dst (N := 8) rfl ?_); refine bxL 78 #[(.string ⟨#[]⟩), (.int .i64 0), (.int .i64 0)] HS ?_; clear HS f1_ f2_ f3_; intro g_t w1 hg_t HS) | ((with_reducible refine gate_store (t := 78) (p := 8) rfl ?_); refine stL HS 0 0 #[.string t.1, .int .i64 t.2.1, .int .i64 t.2.2] rfl rfl rfl rfl rfl ?_; clear HS; intro w1 HS))
                have hw1 := HW.out
                have hw2 := (i64_w _).symm.trans HW.out
                replace HS := sD HS
                refine ps (.p 0 (.p 1 (.p 3 (.t 2 (.e 4 (.p 5 (.p 6 (.p 7 (.t 8 (.e 9 (.p 10 (.p 11 (.p 12 (.p 13 (.p 14 (.t 15 (.p 16 (.p 17 (.p 18 (.p 19 (.p 20 (.p 21 (.p 22 (.p 23 (.p 24 (.p 25 (.p 26 (.p 28 (.t 27 (.t 29 (.d 30 (.p 31 (.p 32 (.p 33 .done)))))))))))))))))))))))))))))))))) (fun w' => w'.cell? ⟨g_t, 0, none⟩ = some (.string t.1) ∧ w'.cell? ⟨g_t, 1, none⟩ = some (.int .i64 t.2.1) ∧ w'.cell? ⟨g_t, 2, none⟩ = some (.int .i64 t.2.2) ∧ w'.cell? (ad_A.add (q * 3)) = some (.string p.1)) [30] ⟨HS.out.c 0 0 (v := .string t.1) rfl rfl, HS.out.c 0 1 (v := .int .i64 t.2.1) rfl rfl, HS.out.c 0 2 (v := .int .i64 t.2.2) rfl rfl, HS.out.old H0p.out⟩ (fun hHeld => ?_)
                repeat (first | ((with_reducible refine gate_p ?_); refine rp rfl rfl ?_) | ((with_reducible refine gate_t ?_); refine rt rfl rfl hHeld ?_))
                refine run_e rfl (fun K hK => ?_)
                refine gc Tryd.func101 (implWord d n hd9 _ hsz _) rfl rfl ?_
                rintro e_ w1 ⟨rfl, hb⟩
                refine ⟨_, rfl, ?_⟩
                replace HS := sB HS hb
                clear hb
                refine ge hK ⟨HS.out.c 0 0 (v := .string t.1) rfl rfl, HS.out.c 0 1 (v := .int .i64 t.2.1) rfl rfl, HS.out.c 0 2 (v := .int .i64 t.2.2) rfl rfl, HS.out.old H0p.out⟩ (fun hHeld => ?_)
                clear hK K
                repeat (first | ((with_reducible refine gate_p ?_); refine rp rfl rfl ?_) | ((with_reducible refine gate_t ?_); refine rt rfl rfl hHeld ?_))
                refine run_e rfl (fun K hK => ?_)
                refine gc Tryd.func27 (implIsFraction _ _ _) rfl rfl ?_
                rintro e_ w1 ⟨rfl, hb⟩
                refine ⟨_, rfl, ?_⟩
                replace HS := sB HS hb
                clear hb
                refine ge hK ⟨HS.out.c 0 0 (v := .string t.1) rfl rfl, HS.out.c 0 1 (v := .int .i64 t.2.1) rfl rfl, HS.out.c 0 2 (v := .int .i64 t.2.2) rfl rfl, HS.out.old H0p.out⟩ (fun hHeld => ?_)
                clear hK K
                repeat (first | ((with_reducible refine gate_p ?_); refine rp rfl rfl ?_) | ((with_reducible refine gate_t ?_); refine rt rfl rfl hHeld ?_))
                refine run_d rfl (fun K hK => ?_)
                refine gc Tryd.func102 (implCompare _ _ hs2 hs1 _) rfl rfl ?_
                rintro e_ w1 ⟨⟨c9, rfl, hc9⟩, hb⟩
                refine ⟨_, rfl, ?_⟩
                replace HS := sB HS hb
                clear hb
                rw [h5] at hc9
                simp only [Bool.not_true, Bool.not_false] at hc9
                refine gd hK ?_
                clear hK K
                repeat (first | ((with_reducible refine gate_p ?_); refine rp rfl rfl ?_) | ((with_reducible refine gate_t ?_); refine rt rfl rfl hHeld ?_))
                refine run_done ?_
                clear hHeld
                clear hw1 hw2
                go_wp2
                replace HS : Aside0 (Mod _ _ _ []) := sX HS []
                go_roundw
                case rel => exact ⟨q + 1 + 1, by omega, by go_num, ⟨round_next HY.out (by rw [HQ.out, h5]; simp)⟩, HS⟩
                case measure => simp [intOf]; omega
    · have HE := Aside0.mk (isTs_ok.2 (fun j hj => HY.out j (by omega)))
      go_wp2
      go_ret
      exact ⟨ret_bool HE.out.symm, HS.out.below⟩
set_option maxRecDepth 100000 in
set_option maxHeartbeats 4000000 in
theorem implIs (d n : Int) (A : Option Addr) (c : Nat) (l : Ts) (w : World) (hr : KT.C w A l.length l) (hc : l.length ≤ c) (hb : bnd l = true) :
    Calls Tryd.prog 47 #[.agg #[.int .i64 d, .int .i64 n, .slice A l.length c]] w fun e w' => e = .returned (.bool (isS d n l)) ∧ Below w.heap.size w w' := by
  have HR := Aside0.mk hr
  have HN := Aside0.mk hb
  have HS := Aside0.mk (Sep.refl w)
  clear hr hb
  cases hlev : lev d n with
  | false =>
    rw [isS_no hlev]
    go_enter Tryd.func47, Tryd.ntmps47
    go_wp2_with (first | ((with_reducible refine gate_dst (N := 1) rfl ?_); refine bxL 36 #[.int .i64 d, .int .i64 n, .slice A l.length c] HS ?_; clear HS; intro g_x w1 hg_x HS; have f1_ := HS.out.c 0 0 (v := .int .i64 d) rfl rfl; have f2_ := HS.out.c 0 1 (v := .int .i64 n) rfl rfl) | (go_at_call 55; refine (implLevel _ _ _).mono ?_; rintro e_ w1 ⟨rfl, hb⟩; replace HS := sB HS hb; clear hb f1_ f2_))
    go_ret
    exact ⟨rfl, HS.out.below⟩
  | true =>
    obtain ⟨d, n, rfl, rfl, hd1, hd3, hn1, hn5⟩ := lev_nat hlev
    rw [isS_lev hlev]
    go_enter Tryd.func47, Tryd.ntmps47
    go_wp2_with (first | ((with_reducible refine gate_dst (N := 1) rfl ?_); refine bxL 36 #[.int .i64 (d : Int), .int .i64 (n : Int), .slice A l.length c] HS ?_; clear HS; intro g_x w1 hg_x HS; have f1_ := HS.out.c 0 0 (v := .int .i64 (d : Int)) rfl rfl; have f2_ := HS.out.c 0 1 (v := .int .i64 (n : Int)) rfl rfl) | (go_at_call 55; refine (implLevel _ _ _).mono ?_; rintro e_ w1 ⟨rfl, hb⟩; replace HS := sB HS hb; clear hb f1_ f2_; have f1_ := HS.out.c 0 0 (v := .int .i64 (d : Int)) rfl rfl; have f2_ := HS.out.c 0 1 (v := .int .i64 (n : Int)) rfl rfl; have f3_ := HS.out.c 0 2 (v := .slice A l.length c) rfl rfl) | (go_at_call 86; refine (implTerms d n ⟨hd1, hd3⟩ hn5 A c l _ (HS.out.oldC HR.out) HN.out).mono ?_; rintro e_ w1 ⟨rfl, hb⟩; replace HS := sB HS hb; clear hb f1_ f2_ f3_))
    go_ret
    exact ⟨rfl, HS.out.below⟩
end Go.Proofs.YtbijcpnimkcfcaaDoor.H


namespace Go.Proofs.YtbijcpnimkcfcaaDoor.M
open Go.Proofs.YtbijcpnimkcfcaaDoor.H
def tmT (t : Tm) : ByteArray := fracT t.2.1 t.2.2 ++ ⟨#[42]⟩ ++ t.1
def txK (l : Ts) (k : Nat) : ByteArray := ⟨(Lib.join (((l.take k).map tmT).map (·.data.toList)) [43]).toArray⟩
theorem join_snoc (xs : List (List UInt8)) (x sep : List UInt8) : Lib.join (xs ++ [x]) sep = if xs = [] then x else Lib.join xs sep ++ (sep ++ x) := by
  cases xs with
  | nil => rw [if_pos rfl, List.nil_append, Lib.join_one]
  | cons a r =>
    rw [if_neg (by simp), List.cons_append, Lib.join_cons, Lib.join_cons]
    simp [Lib.joinTail, List.append_assoc]
theorem ba_toList (b : ByteArray) : (⟨b.data.toList.toArray⟩ : ByteArray) = b := by
  apply ByteArray.ext; simp
theorem txK_next {l : Ts} {k : Nat} (h : k < l.length) : txK l (k + 1) = (if k = 0 then txK l k else txK l k ++ ⟨#[43]⟩) ++ tmT (l.getD k zT) := by
  unfold txK
  rw [List.take_add_one, List.getElem?_eq_getElem h, List.getD_eq_getElem?_getD, List.getElem?_eq_getElem h]
  simp only [Option.toList_some, List.map_append, List.map_cons, List.map_nil, Option.getD_some]
  rw [join_snoc]
  have h43 : (⟨#[43]⟩ : ByteArray) = ⟨[43].toArray⟩ := rfl
  by_cases hk : k = 0
  · subst hk
    rw [if_pos rfl, if_pos (by simp), ba_toList]
    simp [Lib.join_nil]
    show _ = (⟨#[]⟩ : ByteArray) ++ _
    exact ByteArray.empty_append.symm
  · rw [if_neg hk, if_neg (by simp only [List.map_eq_nil_iff, List.take_eq_nil_iff]; rintro (h1 | h1); exact hk h1; rw [h1] at h; exact absurd h (by simp))]
    rw [← mk_app, ← mk_app, ba_toList, ← h43, ByteArray.append_assoc]
theorem txK_zero (l : Ts) : txK l 0 = ⟨#[]⟩ := rfl
theorem txK_size {l : Ts} (hv : ∀ j, j < l.length → (tmT (l.getD j zT)).size ≤ 144) : ∀ k, k ≤ l.length → (txK l k).size ≤ 145 * k
  | 0, _ => by rw [txK_zero]; exact Nat.le_refl _
  | k + 1, h => by
    have ih := txK_size hv k (by omega)
    have h1 := hv k (by omega)
    rw [txK_next (by omega), ByteArray.size_append]
    split
    · omega
    · rw [ByteArray.size_append]
      show (txK l k).size + 1 + _ ≤ _
      omega
theorem fracT_size {x y : Int} (h : isFr x y = true) : (fracT x y).size ≤ 43 := by
  obtain ⟨h0, h1, g0, g1⟩ := fr_b h
  have := itoaB_size h0 h1
  have := itoaB_size g0 g1
  unfold fracT
  rw [ByteArray.size_append, ByteArray.size_append]
  show _ + 1 + _ ≤ 43
  omega
theorem isS_tm {d n : Int} {l : Ts} (h : isS d n l = true) : ∀ j, j < l.length → isFr (l.getD j zT).2.1 (l.getD j zT).2.2 = true ∧ (l.getD j zT).1.size ≤ 100 := by
  intro j hj
  rw [isS, Bool.and_eq_true] at h
  have hm : l.getD j zT ∈ l := by
    rw [List.getD_eq_getElem?_getD, List.getElem?_eq_getElem hj]; exact List.getElem_mem _
  obtain ⟨h1, _, _, h2⟩ := isTm_fr ((isTs_iff.1 h.2).1 _ hm)
  have := lev_iff.1 h.1
  exact ⟨h1, by omega⟩
theorem tmT_size {t : Tm} (h : isFr t.2.1 t.2.2 = true) (hs : t.1.size ≤ 100) : (tmT t).size ≤ 144 := by
  unfold tmT
  have := fracT_size h
  rw [ByteArray.size_append, ByteArray.size_append]
  show _ + 1 + _ ≤ 144
  omega
def txtR (l : Ts) : ByteArray := if l.length = 0 then ⟨#[48]⟩ else txK l l.length
def stR (d n : Int) (l : Ts) : ByteArray × Int := if isS d n l = true then (txtR l, 0) else (⟨#[]⟩, 1)
theorem str_done {l : Ts} {y : List ByteArray} (hl : y.length = l.length) (h : ∀ j, j < l.length → y.getD j ⟨#[]⟩ = tmT (l.getD j zT)) : y = l.map tmT := by
  apply List.ext_getElem (by rw [List.length_map]; exact hl)
  intro j h1 h2
  have := h j (by omega)
  rw [List.getD_eq_getElem?_getD, List.getElem?_eq_getElem h1, List.getD_eq_getElem?_getD, List.getElem?_eq_getElem (by omega)] at this
  rw [List.getElem_map]
  exact this
theorem str_set {y : List ByteArray} {k j : Nat} {x : ByteArray} (hk : k < y.length) : (y.set k x).getD j ⟨#[]⟩ = if j = k then x else y.getD j ⟨#[]⟩ := by
  rw [List.getD_eq_getElem?_getD, List.getD_eq_getElem?_getD, List.getElem?_set]
  by_cases h : k = j
  · subst h; simp [hk]
  · rw [if_neg h, if_neg (Ne.symm h)]
end Go.Proofs.YtbijcpnimkcfcaaDoor.M
namespace Go.Proofs.YtbijcpnimkcfcaaDoor.H
open Go.RowKit Go.Proofs.YtbijcpnimkcfcaaDoorW.PrintWords Go.Proofs.YtbijcpnimkcfcaaDoorW.PrintLast Go.Proofs.YtbijcpnimkcfcaaDoorW.PrintMore Go.Proofs.YtbijcpnimkcfcaaDoor.M
attribute [local go_sem] max2_int min2_int max_two min_two max_three min_three max_four min_four
set_option linter.unusedVariables false
set_option linter.unusedSimpArgs false
set_option maxRecDepth 100000
abbrev sr (g e : Nat) (l : List ByteArray) (sp : List Value) : As := bx g e (l.map Value.string ++ sp).toArray
theorem reps_str {W : World} {base : Nat} {ok : Nat → Prop} : ∀ {l : List ByteArray} {cs : List Value}, Reps (Kd.string.M W base ok) 1 l cs → cs = l.map Value.string
  | [], cs, h => List.eq_nil_of_length_eq_zero (by have := h.1; simpa using this)
  | t :: r, cs, h => by
    have h0 := h.2 0 t rfl
    have hlen := h.1
    simp only [List.length_cons] at hlen
    rw [Nat.zero_mul, List.drop_zero] at h0
    have h0' : cs.take 1 = [.string t] := h0
    have hr : Reps (Kd.string.M W base ok) 1 r (cs.drop 1) := by
      refine ⟨by rw [List.length_drop]; omega, fun j p hj => ?_⟩
      have := h.2 (j + 1) p (by simpa using hj)
      rw [List.drop_drop]
      rwa [show 1 + j * 1 = (j + 1) * 1 by omega]
    have := reps_str hr
    rw [← List.take_append_drop 1 cs, h0', this]; rfl
theorem R_sr {W : World} {e n c : Nat} {A : Option Addr} {l : List ByteArray} (h : Kd.string.R e W 0 (fun _ => True) (.slice A n c) l) (hn : n = l.length) (hl : 0 < l.length) : ∃ g sp, A = some ⟨g, 0, none⟩ ∧ (sr g e l sp).I W ∧ (l.map Value.string ++ sp).length = c ∧ c ≤ 9223372036854775807 := by
  subst hn
  obtain ⟨_, inner, ⟨h1, h2⟩, hr⟩ := h
  have hi := reps_str hr
  rcases h2 with ⟨h3, h4⟩ | ⟨g, cap, cur, h3, _, hg, hn, hm, hs, ht⟩
  · omega
  · injection h3 with h3 h4 h5
    subst h3 h5
    have ht' : cur.toList.take (l.length * 1) = inner := ht
    refine ⟨g, cur.toList.drop (l.length * 1), rfl, ?_, ?_, by unfold maxLen at hm; omega⟩
    · show W.heap[g]? = _
      rw [hg, ← hi, ← ht', List.take_append_drop]
    · rw [← hi, ← ht', List.take_append_drop]
      have hs' : cur.size = c * 1 := hs
      rw [Array.length_toList]; omega
theorem Mod.asBlockS {w W : World} {S : Nat → Prop} {L : List As} (h : Mod w W S L) {i g e n c : Nat} {l : List ByteArray} {sp : List Value} (hi : L[i]? = some (rw' Kd.string rfl e (.slice (some ⟨g, 0, none⟩) n c) l)) (hI : (sr g e l sp).I W) : Mod w W S (L.set i (sr g e l sp)) :=
  h.turn hi ⟨rfl, rfl, rfl, Nat.le_refl _, fun _ _ _ => rfl, fun b hb => by
    obtain rfl := List.mem_singleton.1 hb
    exact ⟨hI, fun k hk => .inl (by rw [show k = g from hk]; rfl)⟩, List.pairwise_singleton _ _⟩ (fun k hk => .inl (by rw [show k = g from hk]; rfl))
theorem stp_put_str {P : Program} {ops : Array Oper} {o : Oper} {a : Act} {Q : Exit → Act → World → Prop} {Kc : Act → World → Prop} {w W : World} {S : Nat → Prop} {L : List As} (hw : Region.wanted o (yielded ops a.tmps) = true) (hN : o.dst = none) {ty : TypeId} {x y : Operand} (ho : o.op = .store ty x y) (HS : Aside0 (Mod w W S L)) (i : Nat) {g e : Nat} {l : List ByteArray} {sp : List Value} (hi : L[i]? = some (sr g e l sp)) (k : Nat) (hk : k < l.length) (t : ByteArray)
    (hx : a.eval x = .pointer (some ⟨g, k, none⟩)) (hy : a.eval y = .string t) (hsz : (P.info? ty).map (·.size) = some 1) (h : ∀ w1, Aside0 (Mod w w1 S (L.set i (sr g e (l.set k t) sp))) → Kc a w1) : Stp P ops Q o a W Kc := by
  refine stp_set hw hN ho HS i k (cs' := ((l.set k t).map Value.string ++ sp).toArray) hi hx hy hsz ?_ ?_ h
  · rw [Bool.and_eq_true, decide_eq_true_eq]
    refine ⟨?_, rfl⟩
    show k + 1 ≤ (l.map Value.string ++ sp).toArray.size
    rw [List.size_toArray, List.length_append, List.length_map]; omega
  · show over (l.map Value.string ++ sp).toArray k [.string t] = _
    unfold over
    simp only [List.toList_toArray]
    congr 1
    have hset : ∀ (x : List Value) (i : Nat) (v : Value), i < x.length → x.take i ++ [v] ++ x.drop (i + [v].length) = x.set i v := fun x i v hi => by
      rw [List.set_eq_take_append_cons_drop, if_pos hi]; simp
    rw [hset _ _ _ (by rw [List.length_append, List.length_map]; omega), List.set_append, if_pos (by rw [List.length_map]; omega), List.map_set]
theorem shelfJoin (g c n e : Nat) (xs : List ByteArray) (sp : List Value) (w : World) (hn : xs.length = n) (hI : (sr g e xs sp).I w) (hN : n ≤ 1048576) (hc : n ≤ c) (hlen : (Lib.join (xs.map (·.data.toList)) [43]).length ≤ 140737488355328) :
    Calls Tryd.prog 87 #[.slice (some ⟨g, 0, none⟩) n c, .string ⟨#[43]⟩] w fun e w' => e = .returned (.string ⟨(Lib.join (xs.map (·.data.toList)) [43]).toArray⟩) ∧ Below w.heap.size w w' := by
  subst hn
  exact Tryd.strings_Join g 0 c xs ⟨#[43]⟩ w (fun j x hx => (blk_cell hI (0 + j)).trans (by
    show ((xs.map Value.string ++ sp).toArray)[0 + j]? = _
    rw [Nat.zero_add, List.getElem?_toArray, List.getElem?_append_left (by rw [List.length_map]; exact (List.getElem?_eq_some_iff.1 hx).1), List.getElem?_map, hx]; rfl)) (blk_lt hI) (by omega) hc hlen
set_option maxHeartbeats 16000000 in
theorem specText (d n : Int) (A : Option Addr) (c : Nat) (l : Ts) (w : World) (hr : KT.C w A l.length l) (hc : l.length ≤ c) (hll : l.length ≤ 1048576) (hv : ∀ j, j < l.length → isFr (l.getD j zT).2.1 (l.getD j zT).2.2 = true ∧ (l.getD j zT).1.size ≤ 100) :
    Calls Tryd.prog 45 #[.agg #[.int .i64 d, .int .i64 n, .slice A l.length c]] w fun e w' => e = .returned (.string (txtR l)) ∧ Below w.heap.size w w' := by
  have HR := Aside0.mk hr
  have HV := Aside0.mk hv
  have HZ := Aside0.mk (txK_size (fun j hj => tmT_size (hv j hj).1 (hv j hj).2))
  have HS := Aside0.mk (Sep.refl w)
  clear hr hv
  unfold txtR
  by_cases hz : l.length = 0
  · rw [if_pos hz]
    have hzi : (l.length : Int) = 0 := by omega
    go_enter Tryd.func45, Tryd.ntmps45
    go_wp2_with (first | ((with_reducible refine gate_dst (N := 1) rfl ?_); refine bxL 36 #[.int .i64 d, .int .i64 n, .slice A l.length c] HS ?_; clear HS; intro g_x w1 hg_x HS; have f1_ := HS.out.c 0 2 (v := .slice A l.length c) rfl rfl))
    go_ret
    exact ⟨rfl, (HS.out.sel [] (by decide)).below⟩
  · rw [if_neg hz]
    have hzi : ¬ (l.length : Int) = 0 := by omega
    go_enter Tryd.func45, Tryd.ntmps45
    go_wp2_with (first | ((with_reducible refine gate_dst (N := 1) rfl ?_); refine bxL 36 #[.int .i64 d, .int .i64 n, .slice A l.length c] HS ?_; clear HS; intro g_x w1 hg_x HS; have f1_ := HS.out.c 0 2 (v := .slice A l.length c) rfl rfl))
    clear hzi hz
    go_loopw [3, 4] (fun x v w' => ∃ (k : Nat) (s : ByteArray), k ≤ l.length ∧ v = .int .i64 (k : Int) ∧ x = .string s ∧ Aside0 (s = txK l k) ∧ Aside0 (Mod w w' No [bx g_x 36 #[.int .i64 d, .int .i64 n, .slice A l.length c]])) (fun _ v _ => l.length - (intOf v).toNat)
    case atStart => exact ⟨0, ⟨#[]⟩, by omega, rfl, rfl, ⟨rfl⟩, HS⟩
    case round =>
      clear HS
      obtain ⟨k, s, hk, rfl, rfl, HX, HS⟩ := hrel
      by_cases hlt : k < l.length
      · have hs := HZ.out k (by omega)
        rw [← HX.out] at hs
        have HN := Aside0.mk (txK_next hlt)
        obtain ⟨hf, hs1⟩ := HV.out k hlt
        obtain ⟨ad_A, ea_, h0_, h1_, h2_⟩ := tm_at HR.out k (hlt)
        cases ea_
        obtain ⟨t, ht_⟩ : ∃ t_, t_ = l.getD k zT := ⟨_, rfl⟩
        rw [← ht_] at h0_ h1_ h2_
        have Et := Aside0.mk ht_; have H0t := Aside0.mk h0_; have H1t := Aside0.mk h1_; have H2t := Aside0.mk h2_
        clear ht_ h0_ h1_ h2_
        rw [← Et.out] at hf hs1 HN
        rw [← HX.out] at HN
        obtain ⟨h0, h1, g0, g1⟩ := fr_b hf
        have HF := Aside0.mk (fun X => specFracText t.2.1 t.2.2 h0 h1 g0 g1 X)
        have hfs := fracT_size hf
        unfold tmT at HN
        obtain ⟨f, hf'⟩ : ∃ f, fracT t.2.1 t.2.2 = f := ⟨_, rfl⟩
        rw [hf'] at HF hfs HN
        clear hf hf' h0 h1 g0 g1
        by_cases hk0 : k = 0
        · have c0 : decide (0 < (k : Int)) = false := by rw [hk0]; rfl
          have c1 : decide (0 < k) = false := by rw [hk0]; rfl
          have HK := Aside0.mk (show txK l (k + 1) = s ++ f ++ ⟨#[42]⟩ ++ t.1 by rw [HN.out, if_pos hk0, ByteArray.append_assoc, ByteArray.append_assoc, ByteArray.append_assoc])
          clear hk0
          have z1 : (9223372036854775807 < s.size + f.size) = False := eq_false (by omega)
          have z2 : (9223372036854775807 < (s ++ f).size + 1) = False := eq_false (by rw [ByteArray.size_append]; omega)
          have z2a : (9223372036854775807 < s.size + f.size + 1) = False := eq_false (by omega)
          have z2b : (9223372036854775807 ≤ s.size + f.size) = False := eq_false (by omega)
          have z2c : (9223372036854775807 ≤ (s ++ f).size) = False := eq_false (by rw [ByteArray.size_append]; omega)
          have z3 : (9223372036854775807 < (s ++ f ++ ⟨#[42]⟩).size + t.1.size) = False := eq_false (by rw [ByteArray.size_append, ByteArray.size_append]; show ¬ 9223372036854775807 < s.size + f.size + 1 + t.1.size; omega)
          have z3a : (9223372036854775807 < s.size + f.size + 1 + t.1.size) = False := eq_false (by omega)
          have f1_ := HS.out.c 0 2 (v := .slice (some ad_A) l.length c) rfl rfl
          go_wp2
          clear f1_
          replace HS := sD HS
          refine ps (.p 0 (.p 1 (.p 3 (.p 10 (.p 12 (.t 2 (.p 4 (.p 5 (.t 6 (.t 11 (.p 13 (.p 14 (.t 15 (.e 7 (.p 8 (.p 9 (.p 16 (.p 17 .done)))))))))))))))))) (fun w' => w'.cell? ⟨g_x, 2, none⟩ = some (.slice (some ad_A) l.length c) ∧ w'.cell? ⟨(ad_A.add (k * 3)).block, (ad_A.add (k * 3)).off + 1, none⟩ = some (.int .i64 t.2.1) ∧ w'.cell? ⟨(ad_A.add (k * 3)).block, (ad_A.add (k * 3)).off + 1 + 1, none⟩ = some (.int .i64 t.2.2) ∧ w'.cell? (ad_A.add (k * 3)) = some (.string t.1)) [] ⟨HS.out.c 0 2 (v := .slice (some ad_A) l.length c) rfl rfl, HS.out.old H1t.out, c2 (HS.out.old H2t.out), HS.out.old H0t.out⟩ (fun hHeld => ?_)
          repeat (first | ((with_reducible refine gate_p ?_); refine rp rfl rfl ?_) | ((with_reducible refine gate_t ?_); refine rt rfl rfl hHeld ?_))
          refine run_e rfl (fun K hK => ?_)
          refine gc Tryd.func41 (HF.out _) rfl rfl ?_
          rintro e_ w1 ⟨rfl, hb⟩
          refine ⟨_, rfl, ?_⟩
          replace HS := sB HS hb
          clear hb
          refine ge hK ⟨HS.out.c 0 2 (v := .slice (some ad_A) l.length c) rfl rfl, HS.out.old H1t.out, c2 (HS.out.old H2t.out), HS.out.old H0t.out⟩ (fun hHeld => ?_)
          clear hK K
          repeat (first | ((with_reducible refine gate_p ?_); refine rp rfl rfl ?_) | ((with_reducible refine gate_t ?_); refine rt rfl rfl hHeld ?_))
          refine run_done ?_
          clear hHeld
          go_wp2
          go_roundw
          case rel => exact ⟨k + 1, _, by omega, by go_num, rfl, ⟨HK.out.symm⟩, HS⟩
          case measure => simp [intOf]; omega
        · have c0 : decide (0 < (k : Int)) = true := decide_eq_true (by omega)
          have c1 : decide (0 < k) = true := decide_eq_true (by omega)
          have hp : 0 < k := by omega
          have HK := Aside0.mk (show txK l (k + 1) = s ++ ⟨#[43]⟩ ++ f ++ ⟨#[42]⟩ ++ t.1 by rw [HN.out, if_neg hk0]; simp only [ByteArray.append_assoc])
          clear hk0
          have z0 : (9223372036854775807 < s.size + 1) = False := eq_false (by omega)
          have z0a : (9223372036854775807 ≤ s.size) = False := eq_false (by omega)
          have z1 : (9223372036854775807 < (s ++ ⟨#[43]⟩).size + f.size) = False := eq_false (by rw [ByteArray.size_append]; show ¬ 9223372036854775807 < s.size + 1 + f.size; omega)
          have z1a : (9223372036854775807 < s.size + 1 + f.size) = False := eq_false (by omega)
          have z2 : (9223372036854775807 < (s ++ ⟨#[43]⟩ ++ f).size + 1) = False := eq_false (by rw [ByteArray.size_append, ByteArray.size_append]; show ¬ 9223372036854775807 < s.size + 1 + f.size + 1; omega)
          have z2a : (9223372036854775807 < s.size + 1 + f.size + 1) = False := eq_false (by omega)
          have z2b : (9223372036854775807 ≤ s.size + 1 + f.size) = False := eq_false (by omega)
          have z2c : (9223372036854775807 ≤ (s ++ ⟨#[43]⟩ ++ f).size) = False := eq_false (by rw [ByteArray.size_append, ByteArray.size_append]; show ¬ 9223372036854775807 ≤ s.size + 1 + f.size; omega)
          have z3 : (9223372036854775807 < (s ++ ⟨#[43]⟩ ++ f ++ ⟨#[42]⟩).size + t.1.size) = False := eq_false (by rw [ByteArray.size_append, ByteArray.size_append, ByteArray.size_append]; show ¬ 9223372036854775807 < s.size + 1 + f.size + 1 + t.1.size; omega)
          have z3a : (9223372036854775807 < s.size + 1 + f.size + 1 + t.1.size) = False := eq_false (by omega)
          have f1_ := HS.out.c 0 2 (v := .slice (some ad_A) l.length c) rfl rfl
          go_wp2
          clear f1_
          replace HS := sD HS
          refine ps (.p 0 (.p 1 (.p 3 (.p 10 (.p 12 (.t 2 (.p 4 (.p 5 (.t 6 (.t 11 (.p 13 (.p 14 (.t 15 (.e 7 (.p 8 (.p 9 (.p 16 (.p 17 .done)))))))))))))))))) (fun w' => w'.cell? ⟨g_x, 2, none⟩ = some (.slice (some ad_A) l.length c) ∧ w'.cell? ⟨(ad_A.add (k * 3)).block, (ad_A.add (k * 3)).off + 1, none⟩ = some (.int .i64 t.2.1) ∧ w'.cell? ⟨(ad_A.add (k * 3)).block, (ad_A.add (k * 3)).off + 1 + 1, none⟩ = some (.int .i64 t.2.2) ∧ w'.cell? (ad_A.add (k * 3)) = some (.string t.1)) [] ⟨HS.out.c 0 2 (v := .slice (some ad_A) l.length c) rfl rfl, HS.out.old H1t.out, c2 (HS.out.old H2t.out), HS.out.old H0t.out⟩ (fun hHeld => ?_)
          repeat (first | ((with_reducible refine gate_p ?_); refine rp rfl rfl ?_) | ((with_reducible refine gate_t ?_); refine rt rfl rfl hHeld ?_))
          refine run_e rfl (fun K hK => ?_)
          refine gc Tryd.func41 (HF.out _) rfl rfl ?_
          rintro e_ w1 ⟨rfl, hb⟩
          refine ⟨_, rfl, ?_⟩
          replace HS := sB HS hb
          clear hb
          refine ge hK ⟨HS.out.c 0 2 (v := .slice (some ad_A) l.length c) rfl rfl, HS.out.old H1t.out, c2 (HS.out.old H2t.out), HS.out.old H0t.out⟩ (fun hHeld => ?_)
          clear hK K
          repeat (first | ((with_reducible refine gate_p ?_); refine rp rfl rfl ?_) | ((with_reducible refine gate_t ?_); refine rt rfl rfl hHeld ?_))
          refine run_done ?_
          clear hHeld
          go_wp2
          go_roundw
          case rel => exact ⟨k + 1, _, by omega, by go_num, rfl, ⟨HK.out.symm⟩, HS⟩
          case measure => simp [intOf]; omega
      · obtain rfl : k = l.length := by omega
        have f1_ := HS.out.c 0 2 (v := .slice A l.length c) rfl rfl
        go_wp2
        go_ret
        exact ⟨ret_str HX.out, (HS.out.sel [] (by decide)).below⟩
end Go.Proofs.YtbijcpnimkcfcaaDoor.H



namespace Go.Proofs.YtbijcpnimkcfcaaDoor.H
open Go.RowKit Go.Proofs.YtbijcpnimkcfcaaDoorW.PrintWords Go.Proofs.YtbijcpnimkcfcaaDoorW.PrintLast Go.Proofs.YtbijcpnimkcfcaaDoorW.PrintMore Go.Proofs.YtbijcpnimkcfcaaDoor.M
attribute [local go_sem] max2_int min2_int max_two min_two max_three min_three max_four min_four
set_option linter.unusedVariables false
set_option linter.unusedSimpArgs false
set_option maxRecDepth 100000
theorem join_len (l : Ts) (hz : l.length ≠ 0) (hll : l.length ≤ 1048576) (h : (txK l l.length).size ≤ 145 * l.length) : (Lib.join ((l.map tmT).map (·.data.toList)) [43]).length ≤ 140737488355328 := by
  unfold txK at h
  rw [List.take_length] at h
  have h' : (Lib.join ((l.map tmT).map (·.data.toList)) [43]).toArray.size ≤ 145 * l.length := h
  rw [List.size_toArray] at h'
  omega
set_option maxHeartbeats 16000000 in
theorem implTermsText (A : Option Addr) (c : Nat) (l : Ts) (w : World) (hr : KT.C w A l.length l) (hll : l.length ≤ 1048576) (hv : ∀ j, j < l.length → isFr (l.getD j zT).2.1 (l.getD j zT).2.2 = true ∧ (l.getD j zT).1.size ≤ 100) (hT : Tab w) :
    Calls Tryd.prog 48 #[.slice A l.length c] w fun e w' => e = .returned (.string (txtR l)) ∧ Below w.heap.size w w' := by
  have HR := Aside0.mk hr
  have HV := Aside0.mk hv
  have HZ := Aside0.mk (txK_size (fun j hj => tmT_size (hv j hj).1 (hv j hj).2))
  have HT := Aside0.mk hT
  have HS := Aside0.mk (Sep.refl w)
  clear hr hv hT
  unfold txtR
  by_cases hz : l.length = 0
  · rw [if_pos hz]
    have hzi : (l.length : Int) = 0 := by omega
    go_enter Tryd.func48, Tryd.ntmps48
    go_wp2
    go_ret
    exact ⟨rfl, (HS.out.sel [] (by decide)).below⟩
  · rw [if_neg hz]
    have hzi : ¬ (l.length : Int) = 0 := by omega
    have HJL := Aside0.mk (join_len l hz hll (HZ.out _ (Nat.le_refl _)))
    have HTX := Aside0.mk (show txK l l.length = ⟨(Lib.join ((l.map tmT).map (·.data.toList)) [43]).toArray⟩ by unfold txK; rw [List.take_length])
    have HNZ := Aside0.mk hz
    clear hz HZ
    go_enter Tryd.func48, Tryd.ntmps48
    go_wp2_with (first | ((with_reducible refine gate_dst (N := 11) rfl ?_); refine wpList_stp (fun K hK => ?_); refine stp_make (Kd.string) rfl 9 (by rfl) HS rfl 75 _ _ rfl l.length rfl rfl Tryd.underlying75 (.string ⟨#[]⟩) 16 infoString rfl ⟨#[]⟩ (fun _ _ _ => rfl) (by omega) ?_; clear HS; intro A_o c_o w1 HS; refine hK _ _ ?_; clear hK K))
    obtain ⟨g_o, sp, rfl, hI, hlen, hcm⟩ := R_sr (HS.out.rowAt 0 rfl) (by simp) (by simp; have := HNZ.out; omega)
    have n_ := Aside0.mk (HS.out.asBlockS (i := 0) rfl hI)
    clear HS hI
    have HS := n_
    clear n_
    simp only [List.set_cons_zero] at HS
    have hco : l.length ≤ c_o := by rw [List.length_append, List.length_map, List.length_replicate] at hlen; omega
    clear hlen hcm hzi
    go_loopw [14] (fun v w' => ∃ (k : Nat) (y : List ByteArray), k ≤ l.length ∧ v = .int .i64 (k : Int) ∧ y.length = l.length ∧ Aside0 (∀ j, j < k → y.getD j ⟨#[]⟩ = tmT (l.getD j zT)) ∧ Aside0 (Mod w w' No [sr g_o 9 y sp])) (fun v _ => l.length - (intOf v).toNat)
    case atStart => exact ⟨0, _, by omega, rfl, by simp, ⟨fun j hj => by omega⟩, HS⟩
    case round =>
      clear HS
      obtain ⟨k, y, hk, rfl, hy, HY, HS⟩ := hrel
      by_cases hlt : k < l.length
      · obtain ⟨hf, hs1⟩ := HV.out k hlt
        obtain ⟨ad_A, ea_, h0_, h1_, h2_⟩ := tm_at HR.out k (hlt)
        cases ea_
        obtain ⟨t, ht_⟩ : ∃ t_, t_ = l.getD k zT := ⟨_, rfl⟩
        rw [← ht_] at h0_ h1_ h2_
        have Et := Aside0.mk ht_; have H0t := Aside0.mk h0_; have H1t := Aside0.mk h1_; have H2t := Aside0.mk h2_
        clear ht_ h0_ h1_ h2_
        rw [← Et.out] at hf hs1
        obtain ⟨h0, h1, g0, g1⟩ := fr_b hf
        have HF := Aside0.mk (fun X => implFracText t.2.1 t.2.2 h0 h1 g0 g1 X)
        have hfs := fracT_size hf
        have HTM := Aside0.mk (show tmT t = fracT t.2.1 t.2.2 ++ ⟨#[42]⟩ ++ t.1 from rfl)
        obtain ⟨f, hf'⟩ : ∃ f, fracT t.2.1 t.2.2 = f := ⟨_, rfl⟩
        rw [hf'] at HF hfs HTM
        clear hf hf' h0 h1 g0 g1
        have z1 : (9223372036854775807 < f.size + 1) = False := eq_false (by omega)
        have z1a : (9223372036854775807 ≤ f.size) = False := eq_false (by omega)
        have z2 : (9223372036854775807 < (f ++ ⟨#[42]⟩).size + t.1.size) = False := eq_false (by rw [ByteArray.size_append]; show ¬ 9223372036854775807 < f.size + 1 + t.1.size; omega)
        have z2a : (9223372036854775807 < f.size + 1 + t.1.size) = False := eq_false (by omega)
        have hky : k < y.length := by omega
        obtain ⟨y', hy'⟩ : ∃ y', y' = y.set k (f ++ ⟨#[42]⟩ ++ t.1) := ⟨_, rfl⟩
        have HY' := Aside0.mk hy'
        have hyl : y'.length = l.length := by rw [hy', List.length_set]; exact hy
        clear hy'
        have f1_ := HS.out.old H0t.out
        have f2_ := HS.out.old H1t.out
        have f3_ := HS.out.old H2t.out
        go_wp2_with (first | ((with_reducible refine gate_dst (N := 5) rfl ?_); refine bxL 78 #[(.string ⟨#[]⟩), (.int .i64 0), (.int .i64 0)] HS ?_; clear HS f1_ f2_ f3_; intro g_x w1 hg_x HS) | ((with_reducible refine gate_store (t := 78) (p := 5) rfl ?_); refine stL HS 0 0 #[.string t.1, .int .i64 t.2.1, .int .i64 t.2.2] rfl rfl rfl rfl rfl ?_; clear HS; intro w1 HS))
        replace HS := sD HS
        refine ps (.p 0 (.p 1 (.p 2 (.p 6 (.t 3 (.t 7 (.e 4 (.p 5 (.p 8 (.p 9 (.d 10 .done))))))))))) (fun w' => w'.cell? ⟨g_x, 1, none⟩ = some (.int .i64 t.2.1) ∧ w'.cell? ⟨g_x, 2, none⟩ = some (.int .i64 t.2.2) ∧ w'.cell? ⟨g_x, 0, none⟩ = some (.string t.1)) [10] ⟨HS.out.c 0 1 (v := .int .i64 t.2.1) rfl rfl, HS.out.c 0 2 (v := .int .i64 t.2.2) rfl rfl, HS.out.c 0 0 (v := .string t.1) rfl rfl⟩ (fun hHeld => ?_)
        repeat (first | ((with_reducible refine gate_p ?_); refine rp rfl rfl ?_) | ((with_reducible refine gate_t ?_); refine rt rfl rfl hHeld ?_))
        refine run_e rfl (fun K hK => ?_)
        refine gc Tryd.func42 (HF.out _ (tab_on HT.out (HS.out.sel [] (by decide)).below)) rfl rfl ?_
        rintro e_ w1 ⟨rfl, hb⟩
        refine ⟨_, rfl, ?_⟩
        replace HS := sB HS hb
        clear hb
        refine ge hK ⟨HS.out.c 0 1 (v := .int .i64 t.2.1) rfl rfl, HS.out.c 0 2 (v := .int .i64 t.2.2) rfl rfl, HS.out.c 0 0 (v := .string t.1) rfl rfl⟩ (fun hHeld => ?_)
        clear hK K
        repeat (first | ((with_reducible refine gate_p ?_); refine rp rfl rfl ?_) | ((with_reducible refine gate_t ?_); refine rt rfl rfl hHeld ?_))
        refine run_d rfl (fun K hK => ?_)
        refine stp_put_str (by rfl) rfl rfl HS 1 rfl k hky (f ++ ⟨#[42]⟩ ++ t.1) rfl rfl (by kernel_rfl) ?_
        clear HS
        intro w1 HS
        simp only [List.set_cons_zero, List.set_cons_succ] at HS
        rw [← HY'.out] at HS
        refine goD hK rfl ?_
        clear hK K
        refine run_done ?_
        clear hHeld
        go_wp2
        replace HS : Aside0 (Mod _ _ _ [_]) := sX HS [1]
        go_roundw
        case rel => exact ⟨k + 1, y', by omega, by go_num, hyl, ⟨round_next (fun j hj => by rw [HY'.out, str_set hky, if_neg (by omega)]; exact HY.out j hj) (by rw [HY'.out, str_set hky, if_pos rfl, ← Et.out]; exact HTM.out.symm)⟩, HS⟩
        case measure => simp [intOf]; omega
      · obtain rfl : y = l.map tmT := str_done hy (fun j hj => HY.out j (by omega))
        clear HY
        go_wp2_with (first | (go_at_call 87; refine (shelfJoin g_o c_o l.length 9 (l.map tmT) sp _ hy (HS.out.at (i := 0) rfl) hll hco HJL.out).mono ?_; rintro e_ w1 ⟨rfl, hb⟩; replace HS := sB HS hb; clear hb))
        go_ret
        exact ⟨ret_str (HTX.out.trans (by rw [List.map_map])).symm, (HS.out.sel [] (by decide)).below⟩
set_option maxHeartbeats 16000000 in
theorem specSeriesText (d n : Int) (A : Option Addr) (c : Nat) (l : Ts) (w : World) (hr : KT.C w A l.length l) (hc : l.length ≤ c) (hb : bnd l = true) :
    Calls Tryd.prog 12 #[.agg #[.int .i64 d, .int .i64 n, .slice A l.length c]] w (RetT w (stR d n l)) := by
  have HR := Aside0.mk hr
  have HN := Aside0.mk hb
  have hll := (bnd_iff.1 hb).1
  have HS := Aside0.mk (Sep.refl w)
  have HI := Aside0.mk (fun X hX => specIs d n A c l X hX hc hb)
  clear hr hb
  unfold stR
  cases h : isS d n l with
  | false =>
    rw [h] at HI
    go_enter Tryd.func12, Tryd.ntmps12
    go_wp2_with (first | ((with_reducible refine gate_dst (N := 1) rfl ?_); refine bxL 36 #[.int .i64 d, .int .i64 n, .slice A l.length c] HS ?_; clear HS; intro g_x w1 hg_x HS; have f1_ := HS.out.c 0 0 (v := .int .i64 d) rfl rfl; have f2_ := HS.out.c 0 1 (v := .int .i64 n) rfl rfl; have f3_ := HS.out.c 0 2 (v := .slice A l.length c) rfl rfl) | (go_at_call 44; refine (HI.out _ (HS.out.oldC HR.out)).mono ?_; rintro e_ w1 ⟨rfl, hb⟩; replace HS := sB HS hb; clear hb f1_ f2_ f3_))
    go_ret2
    exact ⟨rfl, (HS.out.sel [] (by decide)).below⟩
  | true =>
    rw [h] at HI
    have HV := Aside0.mk (isS_tm h)
    clear h
    go_enter Tryd.func12, Tryd.ntmps12
    go_wp2_with (first | ((with_reducible refine gate_dst (N := 1) rfl ?_); refine bxL 36 #[.int .i64 d, .int .i64 n, .slice A l.length c] HS ?_; clear HS; intro g_x w1 hg_x HS; have f1_ := HS.out.c 0 0 (v := .int .i64 d) rfl rfl; have f2_ := HS.out.c 0 1 (v := .int .i64 n) rfl rfl; have f3_ := HS.out.c 0 2 (v := .slice A l.length c) rfl rfl) | (go_at_call 44; refine (HI.out _ (HS.out.oldC HR.out)).mono ?_; rintro e_ w1 ⟨rfl, hb⟩; replace HS := sB HS hb; clear hb f1_ f2_ f3_; have f1_ := HS.out.c 0 0 (v := .int .i64 d) rfl rfl; have f2_ := HS.out.c 0 1 (v := .int .i64 n) rfl rfl; have f3_ := HS.out.c 0 2 (v := .slice A l.length c) rfl rfl) | (go_at_call 45; refine (specText d n A c l _ (HS.out.oldC HR.out) hc hll HV.out).mono ?_; rintro e_ w1 ⟨rfl, hb⟩; replace HS := sB HS hb; clear hb f1_ f2_ f3_))
    go_ret2
    exact ⟨rfl, (HS.out.sel [] (by decide)).below⟩
set_option maxHeartbeats 16000000 in
theorem implSeriesText (d n : Int) (A : Option Addr) (c : Nat) (l : Ts) (w : World) (hr : KT.C w A l.length l) (hc : l.length ≤ c) (hb : bnd l = true) (hT : Tab w) :
    Calls Tryd.prog 14 #[.agg #[.int .i64 d, .int .i64 n, .slice A l.length c]] w (RetT w (stR d n l)) := by
  have HR := Aside0.mk hr
  have HN := Aside0.mk hb
  have HT := Aside0.mk hT
  have hll := (bnd_iff.1 hb).1
  have HS := Aside0.mk (Sep.refl w)
  have HI := Aside0.mk (fun X hX => implIs d n A c l X hX hc hb)
  clear hr hb hT
  unfold stR
  cases h : isS d n l with
  | false =>
    rw [h] at HI
    go_enter Tryd.func14, Tryd.ntmps14
    go_wp2_with (first | ((with_reducible refine gate_dst (N := 1) rfl ?_); refine bxL 36 #[.int .i64 d, .int .i64 n, .slice A l.length c] HS ?_; clear HS; intro g_x w1 hg_x HS; have f1_ := HS.out.c 0 0 (v := .int .i64 d) rfl rfl; have f2_ := HS.out.c 0 1 (v := .int .i64 n) rfl rfl; have f3_ := HS.out.c 0 2 (v := .slice A l.length c) rfl rfl) | (go_at_call 47; refine (HI.out _ (HS.out.oldC HR.out)).mono ?_; rintro e_ w1 ⟨rfl, hb⟩; replace HS := sB HS hb; clear hb f1_ f2_ f3_))
    go_ret2
    exact ⟨rfl, (HS.out.sel [] (by decide)).below⟩
  | true =>
    rw [h] at HI
    have HV := Aside0.mk (isS_tm h)
    clear h
    go_enter Tryd.func14, Tryd.ntmps14
    go_wp2_with (first | ((with_reducible refine gate_dst (N := 1) rfl ?_); refine bxL 36 #[.int .i64 d, .int .i64 n, .slice A l.length c] HS ?_; clear HS; intro g_x w1 hg_x HS; have f1_ := HS.out.c 0 0 (v := .int .i64 d) rfl rfl; have f2_ := HS.out.c 0 1 (v := .int .i64 n) rfl rfl; have f3_ := HS.out.c 0 2 (v := .slice A l.length c) rfl rfl) | (go_at_call 47; refine (HI.out _ (HS.out.oldC HR.out)).mono ?_; rintro e_ w1 ⟨rfl, hb⟩; replace HS := sB HS hb; clear hb f1_ f2_ f3_; have f1_ := HS.out.c 0 2 (v := .slice A l.length c) rfl rfl) | (go_at_call 48; refine (implTermsText A c l _ (HS.out.oldC HR.out) hll HV.out (tab_on HT.out (HS.out.sel [] (by decide)).below)).mono ?_; rintro e_ w1 ⟨rfl, hb⟩; replace HS := sB HS hb; clear hb f1_))
    go_ret2
    exact ⟨rfl, (HS.out.sel [] (by decide)).below⟩
set_option maxHeartbeats 16000000 in
theorem lawSt (d0 n0 : Int) (A0 : Option Addr) (c0 : Nat) (l0 : Ts) (w : World) (hL : laidMet Tryd.prog Rows.fnExactSeriesTextRow.laid w) (hl0 : l0.length ≤ c0) (hm0 : ∀ t ∈ l0, t.1.size ≤ 9223372036854775807) (hr0 : KT.C w A0 l0.length l0) :
    Calls Tryd.prog 4 #[.agg #[.int .i64 d0, .int .i64 n0, .slice A0 l0.length c0]] w fun e w' => e = .returned (.bool true) ∧ Below w.heap.size w w' := by
  have HR0 := Aside0.mk hr0
  have HM0 := Aside0.mk hm0
  have HT := Aside0.mk (tab_laid hL)
  have hlm0 : l0.length ≤ 9223372036854775807 := Kd.C_max hr0
  have HS := Aside0.mk (Sep.refl w)
  clear hr0 hm0 hL
  have H1 := Aside0.mk (fun A c X h1 h2 h3 => specSeriesText d0 n0 A c l0 X h1 h2 h3)
  have H2 := Aside0.mk (fun A c X h1 h2 h3 h4 => implSeriesText d0 n0 A c l0 X h1 h2 h3 h4)
  obtain ⟨r, hr⟩ : ∃ r, stR d0 n0 l0 = r := ⟨_, rfl⟩
  rw [hr] at H1 H2
  clear hr
  obtain ⟨s, q⟩ := r
  go_enter Tryd.func4, Tryd.ntmps4
  have tk1_ : True := trivial
  go_wp2_with (first | ((with_reducible refine gate_dst (N := 1) rfl ?_); refine bxL 31 #[.int .i64 d0, .int .i64 n0, .slice A0 l0.length c0] HS ?_; clear HS; intro g_as0 w1 hg_as0 HS; have f1_ := HS.out.c 0 0 (v := .int .i64 d0) rfl rfl; have f2_ := HS.out.c 0 1 (v := .int .i64 n0) rfl rfl; have f3_ := HS.out.c 0 2 (v := .slice A0 l0.length c0) rfl rfl) | (go_at_call 11; refine (lawSzSeries d0 n0 A0 c0 l0 1048576 _ (HS.out.oldC HR0.out) hlm0 HM0.out (by omega) (by omega)).mono ?_; rintro e_ w1 ⟨v0, rfl, hv0, hu0, hz0, hb⟩; replace HS := sB HS hb; clear hb f1_ f2_ f3_; have f1_ := HS.out.c 0 0 (v := .int .i64 d0) rfl rfl; have f2_ := HS.out.c 0 1 (v := .int .i64 n0) rfl rfl; have f3_ := HS.out.c 0 2 (v := .slice A0 l0.length c0) rfl rfl) | (go_at_call 13; clear tk1_; refine (lawSeries d0 n0 A0 c0 l0 _ (HS.out.oldC HR0.out) (bnd_iff.1 (hz0 (by omega))).1).mono ?_; rintro e_ w1 ⟨B1, b1, rfl, hs⟩; replace HS := sN1 HS hs; clear hs f1_ f2_ f3_) | (go_at_call 12; refine (H1.out B1 b1 _ (HS.out.reads 0 rfl) (HS.out.cap 0 rfl) (hz0 (by omega))).mono ?_; rintro e_ w1 ⟨rfl, hb⟩; replace HS := sB HS hb; clear hb; have f1_ := HS.out.c 1 0 (v := .int .i64 d0) rfl rfl; have f2_ := HS.out.c 1 1 (v := .int .i64 n0) rfl rfl; have f3_ := HS.out.c 1 2 (v := .slice A0 l0.length c0) rfl rfl) | (go_at_call 13; refine (lawSeries d0 n0 A0 c0 l0 _ (HS.out.oldC HR0.out) (bnd_iff.1 (hz0 (by omega))).1).mono ?_; rintro e_ w1 ⟨B2, b2, rfl, hs⟩; replace HS := sN1 HS hs; clear hs f1_ f2_ f3_) | ((with_reducible refine gate_dst (N := 6) rfl ?_); refine bxL 36 #[(.int .i64 0), (.int .i64 0), (.slice none 0 0)] HS ?_; clear HS; intro g_bx0 w1 hg_bx0 HS) | ((with_reducible refine gate_store (t := 36) (p := 6) rfl ?_); refine stL HS 0 0 #[.int .i64 d0, .int .i64 n0, .slice B2 l0.length b2] rfl rfl rfl rfl rfl ?_; clear HS; intro w1 HS; have f1_ := HS.out.c 0 0 (v := .int .i64 d0) rfl rfl; have f2_ := HS.out.c 0 1 (v := .int .i64 n0) rfl rfl; have f3_ := HS.out.c 0 2 (v := .slice B2 l0.length b2) rfl rfl) | (go_at_call 14; refine (H2.out B2 b2 _ (HS.out.reads 1 rfl) (HS.out.cap 1 rfl) (hz0 (by omega)) (tab_on HT.out (HS.out.sel [] (by decide)).below)).mono ?_; rintro e_ w1 ⟨rfl, hb⟩; replace HS := sB HS hb; clear hb f1_ f2_ f3_))
  repeat (focus (go_ret; exact ⟨rfl, HS.out.below⟩; done))
  replace HS := sD HS
  refine ps (.t 0 (.t 1 (.e 2 (.d 3 (.p 4 .done))))) (fun w' => w'.cell? ⟨g_bx0, 0, none⟩ = some (.int .i64 d0) ∧ w'.cell? ⟨g_bx0, 1, none⟩ = some (.int .i64 n0) ∧ w'.cell? ⟨g_bx0, 2, none⟩ = some (.slice B2 l0.length b2) ∧ w'.cell? ⟨g_as0, 0, none⟩ = some (.int .i64 d0) ∧ w'.cell? ⟨g_as0, 1, none⟩ = some (.int .i64 n0) ∧ w'.cell? ⟨g_as0, 2, none⟩ = some (.slice A0 l0.length c0)) [3] ⟨HS.out.c 0 0 (v := .int .i64 d0) rfl rfl, HS.out.c 0 1 (v := .int .i64 n0) rfl rfl, HS.out.c 0 2 (v := .slice B2 l0.length b2) rfl rfl, HS.out.c 3 0 (v := .int .i64 d0) rfl rfl, HS.out.c 3 1 (v := .int .i64 n0) rfl rfl, HS.out.c 3 2 (v := .slice A0 l0.length c0) rfl rfl⟩ (fun hHeld => ?_)
  repeat (first | ((with_reducible refine gate_p ?_); refine rp rfl rfl ?_) | ((with_reducible refine gate_t ?_); refine rt rfl rfl hHeld ?_))
  refine run_e rfl (fun K hK => ?_)
  refine gc Tryd.func13 (lawSeries d0 n0 A0 c0 l0 _ (HS.out.oldC HR0.out) (bnd_iff.1 (hz0 (by omega))).1) rfl rfl ?_
  rintro e_ w1 ⟨B3, b3, rfl, hs⟩
  refine ⟨_, rfl, ?_⟩
  replace HS := sN1 HS hs
  clear hs
  refine ge hK ⟨HS.out.c 1 0 (v := .int .i64 d0) rfl rfl, HS.out.c 1 1 (v := .int .i64 n0) rfl rfl, HS.out.c 1 2 (v := .slice B2 l0.length b2) rfl rfl, HS.out.c 4 0 (v := .int .i64 d0) rfl rfl, HS.out.c 4 1 (v := .int .i64 n0) rfl rfl, HS.out.c 4 2 (v := .slice A0 l0.length c0) rfl rfl⟩ (fun hHeld => ?_)
  clear hK K
  refine run_d rfl (fun K hK => ?_)
  refine gc Tryd.func15 (lawEqSeries d0 n0 B2 B3 b2 b3 l0 _ (HS.out.reads 2 rfl) (HS.out.reads 0 rfl) (bnd_iff.1 (hz0 (by omega))).1) rfl rfl ?_
  rintro e_ w1 ⟨rfl, hb⟩
  refine ⟨_, rfl, ?_⟩
  replace HS := sB HS hb
  clear hb
  refine gd hK ?_
  clear hK K
  repeat (first | ((with_reducible refine gate_p ?_); refine rp rfl rfl ?_) | ((with_reducible refine gate_t ?_); refine rt rfl rfl hHeld ?_))
  refine run_done ?_
  clear hHeld
  go_wp2
  repeat (focus (go_ret; exact ⟨rfl, HS.out.below⟩; done))
end Go.Proofs.YtbijcpnimkcfcaaDoor.H



