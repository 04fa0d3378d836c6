/- Plain facts and contracts of functions that the law's walk uses. Conditions: those that stand in each statement. -/
import Derived.Test.YtibjkjhpfmmjoaaSpG3
import Derived.WalkLawsBesides
import Derived.Test.YtibjkjhpfmmjoaaSpG2
import Derived.Test.YtibjkjhpfmmjoaaSpG4
namespace Go.Proofs.Ytibjkjhpfmmjoaa.M
theorem cmp_neg : ∀ (a b : List UInt8), Lib.compareBytes a b < 0 ↔ bless a b = true
  | [], [] => by simp [Lib.compareBytes, bless, Go.Op.bytesLess]
  | [], _ :: _ => by simp [Lib.compareBytes, bless, Go.Op.bytesLess]
  | _ :: _, [] => by simp [Lib.compareBytes, bless, Go.Op.bytesLess]
  | a :: x, b :: y => by
    have ih := cmp_neg x y
    simp only [Lib.compareBytes, bless, Go.Op.bytesLess] at ih ⊢
    by_cases h : a < b
    · simp [h]
    · rw [if_neg h]
      by_cases k : b < a
      · rw [if_pos k]
        have : ¬ a = b := fun e => by subst e; exact absurd k (UInt8.lt_irrefl _)
        simp [h, this]
      · rw [if_neg k]
        have e : a = b := UInt8.toNat_inj.1 (by rw [UInt8.lt_iff_toNat_lt] at h k; omega)
        subst e
        simp [ih, h]
theorem bef_same {a b : ByteArray} (h : a.size = b.size) : bef a b = bless (bl a) (bl b) := by unfold bef befL; rw [bl_len, bl_len, if_pos h]
theorem bef_other {a b : ByteArray} (h : a.size ≠ b.size) : bef a b = decide (a.size < b.size) := by unfold bef befL; rw [bl_len, bl_len, if_neg h]
end Go.Proofs.Ytibjkjhpfmmjoaa.M
namespace Go.Proofs.Ytibjkjhpfmmjoaa.H
open Go.RowKit Go.Proofs.YtibjkjhpfmmjoaaW.PrintWords Go.Proofs.YtibjkjhpfmmjoaaW.PrintLast Go.Proofs.YtibjkjhpfmmjoaaW.PrintMore Go.Proofs.Ytibjkjhpfmmjoaa.M
attribute [local go_sem] max2_int min2_int max_two min_two max_three min_three max_four min_four
set_option linter.unusedVariables false
set_option linter.unusedSimpArgs false
def okAt (d n : Nat) (l : Ts) (j : Nat) : Bool := isTm d n (l.getD j zT) && (decide (j = 0) || bef (l.getD (j - 1) zT).1 (l.getD j zT).1)
theorem isTs_ok {d n : Nat} {l : Ts} : isTs d n l = true ↔ ∀ j, j < l.length → okAt d n l j = true := by
  rw [isTs_at]
  constructor
  · intro h j hj
    obtain ⟨h1, h2⟩ := h j hj
    rw [okAt, getD_lt l zT j hj, h1, Bool.true_and, Bool.or_eq_true, decide_eq_true_eq]
    rcases Nat.eq_zero_or_pos j with e | e
    · exact .inl e
    · rw [getD_lt l zT (j - 1) (by omega)]; exact .inr (h2 e)
  · intro h j hj
    have h1 := h j hj
    rw [okAt, getD_lt l zT j hj, Bool.and_eq_true, Bool.or_eq_true, decide_eq_true_eq] at h1
    refine ⟨h1.1, fun h0 => ?_⟩
    rcases h1.2 with e | e
    · omega
    · rwa [getD_lt l zT (j - 1) (by omega)] at e
theorem isTs_no {d n : Nat} {l : Ts} {j : Nat} (hj : j < l.length) (h : okAt d n l j = false) : isTs d n l = false := by
  rw [← Bool.not_eq_true, isTs_ok]
  intro hh
  rw [hh j hj] at h
  cases h
theorem bnd_get {l : Ts} (h : bnd l = true) (j : Nat) : (l.getD j zT).1.size ≤ 1048576 := by
  by_cases hj : j < l.length
  · rw [getD_lt l zT j hj]; exact (bnd_iff.1 h).2 _ (List.getElem_mem _)
  · rw [List.getD_eq_getElem?_getD, List.getElem?_eq_none (by omega)]; show (ByteArray.mk #[]).size ≤ _; decide
theorem okAt_eq (d n : Nat) (l : Ts) (k : Nat) {t : Tm} (ht : t = l.getD k zT) : okAt d n l k = ((isWd d t.1 && (decide (t.1.size ≤ n) && (isFr t.2.1 t.2.2 && decide (t.2.1 ≠ 0)))) && (decide (k = 0) || bef (l.getD (k - 1) zT).1 t.1)) := by subst ht; rfl
set_option maxHeartbeats 1000000 in
theorem specBefore (a b : ByteArray) (w : World) (ha : a.size ≤ 9223372036854775807) (hb : b.size ≤ 9223372036854775807) : Calls Try.prog 109 #[.string a, .string b] w fun e w' => e = .returned (.bool (bef a b)) ∧ Below w.heap.size w w' := by
  by_cases h : a.size = b.size
  · have HL := Lib.hid (bef_same h)
    have h1 : ((a.size : Int) != (b.size : Int)) = false := by rw [bne_eq_false_iff_eq]; omega
    clear h
    go_enter Try.func109, Try.ntmps109
    go_wp2
    go_ret
    exact ⟨ret_bool (by rw [HL.out, ByteArray.toList_eq, ByteArray.toList_eq]; first | done | rfl), Below.refl _ _⟩
  · have HL := Lib.hid (bef_other h)
    have h1 : ((a.size : Int) != (b.size : Int)) = true := by rw [bne_iff_ne]; omega
    clear h
    go_enter Try.func109, Try.ntmps109
    go_wp2
    go_ret
    exact ⟨ret_bool (by rw [HL.out]; first | done | simp), Below.refl _ _⟩
set_option maxHeartbeats 1000000 in
theorem implCompare (a b : ByteArray) (ha : a.size ≤ 1048576) (hb : b.size ≤ 1048576) (w : World) : Calls Try.prog 136 #[.string a, .string b] w fun e w' => (∃ c : Int, e = .returned (.int .i64 c) ∧ decide (0 ≤ c) = !bef a b) ∧ Below w.heap.size w w' := by
  by_cases h : a.size = b.size
  · have HL := Lib.hid (bef_same h)
    have h1 : ((a.size : Int) != (b.size : Int)) = false := by rw [bne_eq_false_iff_eq]; omega
    clear h
    go_enter Try.func136, Try.ntmps136
    go_wp2_with (first | (go_at_call 144; refine (stringsCompare _ _ _).mono ?_; rintro e w1 ⟨rfl, n_, rfl⟩))
    go_ret
    refine ⟨⟨_, rfl, ?_⟩, pw_below_drewN (Below.refl _ _) _⟩
    rw [HL.out]
    have := cmp_neg (bl a) (bl b)
    cases hh : bless (bl a) (bl b) with
    | true => rw [hh] at this; have := this.2 rfl; unfold bl at this; simp; omega
    | false => rw [hh] at this; have : ¬ _ := fun h => absurd (this.1 h) (by simp); unfold bl at this; simp; omega
  · have HL := Lib.hid (bef_other h)
    have h1 : ((a.size : Int) != (b.size : Int)) = true := by rw [bne_iff_ne]; omega
    clear h
    go_enter Try.func136, Try.ntmps136
    go_wp2
    go_ret
    exact ⟨⟨_, rfl, by rw [HL.out, ← decide_not]; exact decide_eq_decide.2 (by omega)⟩, Below.refl _ _⟩
theorem specInB (a b c : Int) (w : World) : Calls Try.prog 61 #[.int .i64 a, .int .i64 b, .int .i64 c] w fun e w' => e = .returned (.bool (inR a b c)) ∧ Below w.heap.size w w' := quietB (specIn a b c w)
theorem implInB (a b c : Int) (w : World) : Calls Try.prog 58 #[.int .i64 a, .int .i64 b, .int .i64 c] w fun e w' => e = .returned (.bool (inR a b c)) ∧ Below w.heap.size w w' := quietB (implIn a b c w)
theorem lev_nat {d n : Int} (h : lev d n = true) : ∃ d' n' : Nat, d = d' ∧ n = n' ∧ 1 ≤ d' ∧ d' ≤ 3 ∧ 1 ≤ n' ∧ n' ≤ 5 := by
  have := lev_iff.1 h
  exact ⟨d.toNat, n.toNat, by omega, by omega, by omega, by omega, by omega, by omega⟩
theorem isS_lev {d n : Nat} {l : Ts} (h : lev d n = true) : isS d n l = isTs d n l := by unfold isS; rw [h]; rfl
theorem isS_no {d n : Int} {l : Ts} (h : lev d n = false) : isS d n l = false := by unfold isS; rw [h]; rfl
set_option maxRecDepth 100000 in
set_option maxHeartbeats 8000000 in
theorem specIs (d n : Int) (A : Option Addr) (c : Nat) (l : Ts) (w : World) (hr : KT.C w A l.length l) (hc : l.length ≤ c) (hb : bnd l = true) :
    Calls Try.prog 54 #[.agg #[.int .i64 d, .int .i64 n, .slice A l.length c]] w fun e w' => e = .returned (.bool (isS d n l)) ∧ Below w.heap.size w w' := by
  have HR := Aside0.mk hr
  have HN := Aside0.mk hb
  have hll := (bnd_iff.1 hb).1
  have HS := Aside0.mk (Sep.refl w)
  clear hr hb
  cases hlev : lev d n with
  | false =>
    rw [isS_no hlev]
    go_enter Try.func54, Try.ntmps54
    go_wp2_with (first | ((with_reducible refine gate_dst (N := 1) rfl ?_); refine bxL 26 #[.int .i64 d, .int .i64 n, .slice A l.length c] HS ?_; clear HS; intro g_x w1 hg_x HS; have f1_ := HS.out.c 0 0 (v := .int .i64 d) rfl rfl; have f2_ := HS.out.c 0 1 (v := .int .i64 n) rfl rfl) | (go_at_call 89; refine (specSizes _ _ _).mono ?_; rintro e_ w1 ⟨rfl, hb⟩; replace HS := sB HS hb; clear hb f1_ f2_))
    go_ret
    exact ⟨rfl, HS.out.below⟩
  | true =>
    obtain ⟨d, n, rfl, rfl, hd1, hd3, hn1, hn5⟩ := lev_nat hlev
    rw [isS_lev hlev]
    go_enter Try.func54, Try.ntmps54
    go_wp2_with (first | ((with_reducible refine gate_dst (N := 1) rfl ?_); refine bxL 26 #[.int .i64 (d : Int), .int .i64 (n : Int), .slice A l.length c] HS ?_; clear HS; intro g_x w1 hg_x HS; have f1_ := HS.out.c 0 0 (v := .int .i64 (d : Int)) rfl rfl; have f2_ := HS.out.c 0 1 (v := .int .i64 (n : Int)) rfl rfl) | (go_at_call 89; refine (specSizes _ _ _).mono ?_; rintro e_ w1 ⟨rfl, hb⟩; replace HS := sB HS hb; clear hb f1_ f2_))
    clear hlev
    go_loopw [3] (fun v w' => ∃ k : Nat, k ≤ l.length ∧ v = .int .i64 (k : Int) ∧ Aside0 (∀ j, j < k → okAt d n l j = true) ∧ Aside0 (Mod w w' No [bx g_x 26 #[.int .i64 (d : Int), .int .i64 (n : Int), .slice A l.length c]])) (fun v _ => l.length - (intOf v).toNat)
    case atStart => exact ⟨0, by omega, rfl, ⟨fun j hj => by omega⟩, HS⟩
    case round =>
      clear HS
      obtain ⟨k, hk, rfl, HY, HS⟩ := hrel
      by_cases hlt : k < l.length
      · have hs1 := bnd_get HN.out k
        obtain ⟨ad_A, ea_, h0_, h1_, h2_⟩ := tm_at HR.out k (hlt)
        cases ea_
        obtain ⟨t, ht_⟩ : ∃ t_, t_ = l.getD k zT := ⟨_, rfl⟩
        rw [← ht_] at h0_ h1_ h2_
        have Et := Aside0.mk ht_; have H0t := Aside0.mk h0_; have H1t := Aside0.mk h1_; have H2t := Aside0.mk h2_
        clear ht_ h0_ h1_ h2_
        have HK := Aside0.mk (okAt_eq d n l k Et.out)
        have HNO := Aside0.mk (@isTs_no d n l k hlt)
        rw [← Et.out] at hs1
        have hsz : t.1.size ≤ 9223372036854775807 := by omega
        by_cases h1 : n < t.1.size
        · have HZ := Aside0.mk (show decide (t.1.size ≤ n) = false from decide_eq_false (by omega))
          have f1_ := HS.out.c 0 2 (v := .slice (some ad_A) l.length c) rfl rfl
          have f2_ := HS.out.old H0t.out
          have f3_ := HS.out.old H1t.out
          have f4_ := HS.out.old H2t.out
          go_wp2_with (first | ((with_reducible refine gate_dst (N := 4) rfl ?_); refine bxL 38 #[(.string ⟨#[]⟩), (.int .i64 0), (.int .i64 0)] HS ?_; clear HS f1_ f2_ f3_ f4_; intro g_t w1 hg_t HS) | ((with_reducible refine gate_store (t := 38) (p := 4) rfl ?_); refine stL HS 0 0 #[.string t.1, .int .i64 t.2.1, .int .i64 t.2.2] rfl rfl rfl rfl rfl ?_; clear HS; intro w1 HS; have f1_ := HS.out.c 0 0 (v := .string t.1) rfl rfl; have f2_ := HS.out.c 1 1 (v := .int .i64 (n : Int)) rfl rfl))
          go_ret
          exact ⟨ret_bool (HNO.out (by rw [HK.out, HZ.out]; simp)).symm, HS.out.below⟩
        · have HZ := Aside0.mk (show decide (t.1.size ≤ n) = true from decide_eq_true (by omega))
          cases h2 : isWd d t.1 with
          | false =>
            have f1_ := HS.out.c 0 2 (v := .slice (some ad_A) l.length c) rfl rfl
            have f2_ := HS.out.old H0t.out
            have f3_ := HS.out.old H1t.out
            have f4_ := HS.out.old H2t.out
            go_wp2_with (first | ((with_reducible refine gate_dst (N := 4) rfl ?_); refine bxL 38 #[(.string ⟨#[]⟩), (.int .i64 0), (.int .i64 0)] HS ?_; clear HS f1_ f2_ f3_ f4_; intro g_t w1 hg_t HS) | ((with_reducible refine gate_store (t := 38) (p := 4) rfl ?_); refine stL HS 0 0 #[.string t.1, .int .i64 t.2.1, .int .i64 t.2.2] rfl rfl rfl rfl rfl ?_; clear HS; intro w1 HS; have f1_ := HS.out.c 0 0 (v := .string t.1) rfl rfl; have f2_ := HS.out.c 1 1 (v := .int .i64 (n : Int)) rfl rfl; have f3_ := HS.out.c 1 0 (v := .int .i64 (d : Int)) rfl rfl) | (go_at_call 90; refine (specWord d (by omega) _ hsz _).mono ?_; rintro e_ w1 ⟨rfl, hb⟩; replace HS := sB HS hb; clear hb f1_ f2_ f3_))
            go_ret
            exact ⟨ret_bool (HNO.out (by rw [HK.out, h2]; simp)).symm, HS.out.below⟩
          | true =>
            cases h3 : isFr t.2.1 t.2.2 with
            | false =>
              have f1_ := HS.out.c 0 2 (v := .slice (some ad_A) l.length c) rfl rfl
              have f2_ := HS.out.old H0t.out
              have f3_ := HS.out.old H1t.out
              have f4_ := HS.out.old H2t.out
              go_wp2_with (first | ((with_reducible refine gate_dst (N := 4) rfl ?_); refine bxL 38 #[(.string ⟨#[]⟩), (.int .i64 0), (.int .i64 0)] HS ?_; clear HS f1_ f2_ f3_ f4_; intro g_t w1 hg_t HS) | ((with_reducible refine gate_store (t := 38) (p := 4) rfl ?_); refine stL HS 0 0 #[.string t.1, .int .i64 t.2.1, .int .i64 t.2.2] rfl rfl rfl rfl rfl ?_; clear HS; intro w1 HS; have f1_ := HS.out.c 0 0 (v := .string t.1) rfl rfl; have f2_ := HS.out.c 1 1 (v := .int .i64 (n : Int)) rfl rfl; have f3_ := HS.out.c 1 0 (v := .int .i64 (d : Int)) rfl rfl) | (go_at_call 90; refine (specWord d (by omega) _ hsz _).mono ?_; rintro e_ w1 ⟨rfl, hb⟩; replace HS := sB HS hb; clear hb f1_ f2_ f3_; have f1_ := HS.out.c 0 1 (v := .int .i64 t.2.1) rfl rfl; have f2_ := HS.out.c 0 2 (v := .int .i64 t.2.2) rfl rfl) | (go_at_call 107; refine (specIsFrac _ _ _).mono ?_; rintro e_ w1 ⟨rfl, hb⟩; replace HS := sB HS hb; clear hb f1_ f2_))
              go_ret
              exact ⟨ret_bool (HNO.out (by rw [HK.out, h3]; simp)).symm, HS.out.below⟩
            | true =>
              cases h4 : (t.2.1 == 0) with
              | true =>
                have f1_ := HS.out.c 0 2 (v := .slice (some ad_A) l.length c) rfl rfl
                have f2_ := HS.out.old H0t.out
                have f3_ := HS.out.old H1t.out
                have f4_ := HS.out.old H2t.out
                go_wp2_with (first | ((with_reducible refine gate_dst (N := 4) rfl ?_); refine bxL 38 #[(.string ⟨#[]⟩), (.int .i64 0), (.int .i64 0)] HS ?_; clear HS f1_ f2_ f3_ f4_; intro g_t w1 hg_t HS) | ((with_reducible refine gate_store (t := 38) (p := 4) rfl ?_); refine stL HS 0 0 #[.string t.1, .int .i64 t.2.1, .int .i64 t.2.2] rfl rfl rfl rfl rfl ?_; clear HS; intro w1 HS; have f1_ := HS.out.c 0 0 (v := .string t.1) rfl rfl; have f2_ := HS.out.c 1 1 (v := .int .i64 (n : Int)) rfl rfl; have f3_ := HS.out.c 1 0 (v := .int .i64 (d : Int)) rfl rfl) | (go_at_call 90; refine (specWord d (by omega) _ hsz _).mono ?_; rintro e_ w1 ⟨rfl, hb⟩; replace HS := sB HS hb; clear hb f1_ f2_ f3_; have f1_ := HS.out.c 0 1 (v := .int .i64 t.2.1) rfl rfl; have f2_ := HS.out.c 0 2 (v := .int .i64 t.2.2) rfl rfl) | (go_at_call 107; refine (specIsFrac _ _ _).mono ?_; rintro e_ w1 ⟨rfl, hb⟩; replace HS := sB HS hb; clear hb f1_ f2_; have f1_ := HS.out.c 0 1 (v := .int .i64 t.2.1) rfl rfl; have f2_ := HS.out.c 0 2 (v := .int .i64 t.2.2) rfl rfl) | (go_at_call 108; refine (specZero _ _ _).mono ?_; rintro e_ w1 ⟨rfl, hb⟩; replace HS := sB HS hb; clear hb f1_ f2_))
                go_ret
                exact ⟨ret_bool (HNO.out (by rw [HK.out, decide_eq_false (p := t.2.1 ≠ 0) (by simpa using h4)]; simp)).symm, HS.out.below⟩
              | false =>
                have HQ := Aside0.mk (show okAt d n l k = (decide (k = 0) || bef (l.getD (k - 1) zT).1 t.1) by rw [HK.out, h2, HZ.out, h3, decide_eq_true (p := t.2.1 ≠ 0) (by simpa using h4)]; rfl)
                by_cases hk0 : k = 0
                · have c0 : decide (0 < (k : Int)) = false := by rw [hk0]; rfl
                  have c1 : decide (0 < k) = false := by rw [hk0]; rfl
                  have HK0 := Aside0.mk hk0
                  clear hk0
                  have f1_ := HS.out.c 0 2 (v := .slice (some ad_A) l.length c) rfl rfl
                  have f2_ := HS.out.old H0t.out
                  have f3_ := HS.out.old H1t.out
                  have f4_ := HS.out.old H2t.out
                  go_wp2_with (first | ((with_reducible refine gate_dst (N := 4) rfl ?_); refine bxL 38 #[(.string ⟨#[]⟩), (.int .i64 0), (.int .i64 0)] HS ?_; clear HS f1_ f2_ f3_ f4_; intro g_t w1 hg_t HS) | ((with_reducible refine gate_store (t := 38) (p := 4) rfl ?_); refine stL HS 0 0 #[.string t.1, .int .i64 t.2.1, .int .i64 t.2.2] rfl rfl rfl rfl rfl ?_; clear HS; intro w1 HS; have f1_ := HS.out.c 0 0 (v := .string t.1) rfl rfl; have f2_ := HS.out.c 1 1 (v := .int .i64 (n : Int)) rfl rfl; have f3_ := HS.out.c 1 0 (v := .int .i64 (d : Int)) rfl rfl) | (go_at_call 90; refine (specWord d (by omega) _ hsz _).mono ?_; rintro e_ w1 ⟨rfl, hb⟩; replace HS := sB HS hb; clear hb f1_ f2_ f3_; have f1_ := HS.out.c 0 1 (v := .int .i64 t.2.1) rfl rfl; have f2_ := HS.out.c 0 2 (v := .int .i64 t.2.2) rfl rfl) | (go_at_call 107; refine (specIsFrac _ _ _).mono ?_; rintro e_ w1 ⟨rfl, hb⟩; replace HS := sB HS hb; clear hb f1_ f2_; have f1_ := HS.out.c 0 1 (v := .int .i64 t.2.1) rfl rfl; have f2_ := HS.out.c 0 2 (v := .int .i64 t.2.2) rfl rfl) | (go_at_call 108; refine (specZero _ _ _).mono ?_; rintro e_ w1 ⟨rfl, hb⟩; replace HS := sB HS hb; clear hb f1_ f2_))
                  replace HS := sD HS
                  refine ps (.p 0 (.p 1 (.p 2 (.p 3 (.p 4 (.p 5 (.p 6 (.p 7 (.p 8 (.p 9 (.p 10 (.p 11 (.p 12 (.p 13 (.p 14 .done))))))))))))))) (fun w' => True) [] trivial (fun hHeld => ?_)
                  repeat (first | ((with_reducible refine gate_p ?_); refine rp rfl rfl ?_) | ((with_reducible refine gate_p ?_); refine rp0 rfl rfl ?_))
                  refine run_done ?_
                  clear hHeld
                  go_wp2
                  replace HS : Aside0 (Mod _ _ _ [_]) := sX HS [1]
                  go_roundw
                  case rel => exact ⟨k + 1, by omega, by go_num, ⟨round_next HY.out (by rw [HQ.out, decide_eq_true HK0.out]; rfl)⟩, HS⟩
                  case measure => simp [intOf]; omega
                · obtain ⟨q, rfl⟩ : ∃ q, k = q + 1 := ⟨k - 1, by omega⟩
                  clear hk0
                  have c0 : decide (0 < ((q + 1 : Nat) : Int)) = true := decide_eq_true (by omega)
                  have c1 : decide (0 < q + 1) = true := decide_eq_true (by omega)
                  have hs2 := bnd_get HN.out q
                  obtain ⟨adn_, ea_, h0_, h1_, h2_⟩ := tm_at HR.out q ((by omega))
                  cases ea_
                  obtain ⟨p, ht_⟩ : ∃ t_, t_ = l.getD q zT := ⟨_, rfl⟩
                  rw [← ht_] at h0_ h1_ h2_
                  have Ep := Aside0.mk ht_; have H0p := Aside0.mk h0_; have H1p := Aside0.mk h1_; have H2p := Aside0.mk h2_
                  clear ht_ h0_ h1_ h2_
                  rw [← Ep.out] at hs2
                  rw [show q + 1 - 1 = q by omega, ← Ep.out] at HQ
                  have hq0 : (0 : Int) ≤ q := by omega
                  have hq1 : (q : Int) < l.length := by omega
                  have HW := Aside0.mk (show IntKind.i64.wrap (q : Int) = (q : Int) from IntWalk.i64_in _ (by omega))
                  have hsp : p.1.size ≤ 9223372036854775807 := by omega
                  cases h5 : bef p.1 t.1 with
                  | false =>
                    have f1_ := HS.out.c 0 2 (v := .slice (some ad_A) l.length c) rfl rfl
                    have f2_ := HS.out.old H0t.out
                    have f3_ := HS.out.old H1t.out
                    have f4_ := HS.out.old H2t.out
                    go_wp2_with (first | ((with_reducible refine gate_dst (N := 4) rfl ?_); refine bxL 38 #[(.string ⟨#[]⟩), (.int .i64 0), (.int .i64 0)] HS ?_; clear HS f1_ f2_ f3_ f4_; intro g_t w1 hg_t HS) | ((with_reducible refine gate_store (t := 38) (p := 4) rfl ?_); refine stL HS 0 0 #[.string t.1, .int .i64 t.2.1, .int .i64 t.2.2] rfl rfl rfl rfl rfl ?_; clear HS; intro w1 HS; have f1_ := HS.out.c 0 0 (v := .string t.1) rfl rfl; have f2_ := HS.out.c 1 1 (v := .int .i64 (n : Int)) rfl rfl; have f3_ := HS.out.c 1 0 (v := .int .i64 (d : Int)) rfl rfl) | (go_at_call 90; refine (specWord d (by omega) _ hsz _).mono ?_; rintro e_ w1 ⟨rfl, hb⟩; replace HS := sB HS hb; clear hb f1_ f2_ f3_; have f1_ := HS.out.c 0 1 (v := .int .i64 t.2.1) rfl rfl; have f2_ := HS.out.c 0 2 (v := .int .i64 t.2.2) rfl rfl) | (go_at_call 107; refine (specIsFrac _ _ _).mono ?_; rintro e_ w1 ⟨rfl, hb⟩; replace HS := sB HS hb; clear hb f1_ f2_; have f1_ := HS.out.c 0 1 (v := .int .i64 t.2.1) rfl rfl; have f2_ := HS.out.c 0 2 (v := .int .i64 t.2.2) rfl rfl) | (go_at_call 108; refine (specZero _ _ _).mono ?_; rintro e_ w1 ⟨rfl, hb⟩; replace HS := sB HS hb; clear hb f1_ f2_))
                    have hw1 := HW.out
                    have hw2 := (i64_w _).symm.trans HW.out
                    replace HS := sD HS
                    refine ps (.p 0 (.p 1 (.p 2 (.p 3 (.p 5 (.p 6 (.p 10 (.t 4 (.p 7 (.p 8 (.t 9 (.t 11 (.d 12 (.p 13 (.p 14 .done))))))))))))))) (fun w' => w'.cell? ⟨g_x, 2, none⟩ = some (.slice (some ad_A) l.length c) ∧ w'.cell? (ad_A.add (q * 3)) = some (.string p.1) ∧ w'.cell? ⟨g_t, 0, none⟩ = some (.string t.1)) [12] ⟨HS.out.c 1 2 (v := .slice (some ad_A) l.length c) rfl rfl, HS.out.old H0p.out, HS.out.c 0 0 (v := .string t.1) rfl rfl⟩ (fun hHeld => ?_)
                    repeat (first | ((with_reducible refine gate_p ?_); refine rp rfl rfl ?_) | ((with_reducible refine gate_t ?_); refine rt rfl rfl hHeld ?_))
                    refine run_d rfl (fun K hK => ?_)
                    refine gc Try.func109 (specBefore _ _ _ hsp hsz) rfl rfl ?_
                    rintro e_ w1 ⟨rfl, hb⟩
                    refine ⟨_, rfl, ?_⟩
                    replace HS := sB HS hb
                    clear hb
                    refine gd hK ?_
                    clear hK K
                    repeat (first | ((with_reducible refine gate_p ?_); refine rp rfl rfl ?_) | ((with_reducible refine gate_t ?_); refine rt rfl rfl hHeld ?_))
                    refine run_done ?_
                    clear hHeld
                    clear hw1 hw2
                    go_wp2
                    go_ret
                    exact ⟨ret_bool (HNO.out (by rw [HQ.out, h5]; simp)).symm, HS.out.below⟩
                  | true =>
                    have f1_ := HS.out.c 0 2 (v := .slice (some ad_A) l.length c) rfl rfl
                    have f2_ := HS.out.old H0t.out
                    have f3_ := HS.out.old H1t.out
                    have f4_ := HS.out.old H2t.out
                    go_wp2_with (first | ((with_reducible refine gate_dst (N := 4) rfl ?_); refine bxL 38 #[(.string ⟨#[]⟩), (.int .i64 0), (.int .i64 0)] HS ?_; clear HS f1_ f2_ f3_ f4_; intro g_t w1 hg_t HS) | ((with_reducible refine gate_store (t := 38) (p := 4) rfl ?_); refine stL HS 0 0 #[.string t.1, .int .i64 t.2.1, .int .i64 t.2.2] rfl rfl rfl rfl rfl ?_; clear HS; intro w1 HS; have f1_ := HS.out.c 0 0 (v := .string t.1) rfl rfl; have f2_ := HS.out.c 1 1 (v := .int .i64 (n : Int)) rfl rfl; have f3_ := HS.out.c 1 0 (v := .int .i64 (d : Int)) rfl rfl) | (go_at_call 90; refine (specWord d (by omega) _ hsz _).mono ?_; rintro e_ w1 ⟨rfl, hb⟩; replace HS := sB HS hb; clear hb f1_ f2_ f3_; have f1_ := HS.out.c 0 1 (v := .int .i64 t.2.1) rfl rfl; have f2_ := HS.out.c 0 2 (v := .int .i64 t.2.2) rfl rfl) | (go_at_call 107; refine (specIsFrac _ _ _).mono ?_; rintro e_ w1 ⟨rfl, hb⟩; replace HS := sB HS hb; clear hb f1_ f2_; have f1_ := HS.out.c 0 1 (v := .int .i64 t.2.1) rfl rfl; have f2_ := HS.out.c 0 2 (v := .int .i64 t.2.2) rfl rfl) | (go_at_call 108; refine (specZero _ _ _).mono ?_; rintro e_ w1 ⟨rfl, hb⟩; replace HS := sB HS hb; clear hb f1_ f2_))
                    have hw1 := HW.out
                    have hw2 := (i64_w _).symm.trans HW.out
                    replace HS := sD HS
                    refine ps (.p 0 (.p 1 (.p 2 (.p 3 (.p 5 (.p 6 (.p 10 (.t 4 (.p 7 (.p 8 (.t 9 (.t 11 (.d 12 (.p 13 (.p 14 .done))))))))))))))) (fun w' => w'.cell? ⟨g_x, 2, none⟩ = some (.slice (some ad_A) l.length c) ∧ w'.cell? (ad_A.add (q * 3)) = some (.string p.1) ∧ w'.cell? ⟨g_t, 0, none⟩ = some (.string t.1)) [12] ⟨HS.out.c 1 2 (v := .slice (some ad_A) l.length c) rfl rfl, HS.out.old H0p.out, HS.out.c 0 0 (v := .string t.1) rfl rfl⟩ (fun hHeld => ?_)
                    repeat (first | ((with_reducible refine gate_p ?_); refine rp rfl rfl ?_) | ((with_reducible refine gate_t ?_); refine rt rfl rfl hHeld ?_))
                    refine run_d rfl (fun K hK => ?_)
                    refine gc Try.func109 (specBefore _ _ _ hsp hsz) rfl rfl ?_
                    rintro e_ w1 ⟨rfl, hb⟩
                    refine ⟨_, rfl, ?_⟩
                    replace HS := sB HS hb
                    clear hb
                    refine gd hK ?_
                    clear hK K
                    repeat (first | ((with_reducible refine gate_p ?_); refine rp rfl rfl ?_) | ((with_reducible refine gate_t ?_); refine rt rfl rfl hHeld ?_))
                    refine run_done ?_
                    clear hHeld
                    clear hw1 hw2
                    go_wp2
                    replace HS : Aside0 (Mod _ _ _ [_]) := sX HS [1]
                    go_roundw
                    case rel => exact ⟨q + 1 + 1, by omega, by go_num, ⟨round_next HY.out (by rw [HQ.out, h5]; simp)⟩, HS⟩
                    case measure => simp [intOf]; omega
      · have HE := Aside0.mk (isTs_ok.2 (fun j hj => HY.out j (by omega)))
        have f1_ := HS.out.c 0 2 (v := .slice A l.length c) rfl rfl
        go_wp2
        go_ret
        exact ⟨ret_bool HE.out.symm, HS.out.below⟩
end Go.Proofs.Ytibjkjhpfmmjoaa.H
namespace Go.Proofs.Ytibjkjhpfmmjoaa.H
open Go.RowKit Go.Proofs.YtibjkjhpfmmjoaaW.PrintWords Go.Proofs.YtibjkjhpfmmjoaaW.PrintLast Go.Proofs.YtibjkjhpfmmjoaaW.PrintMore Go.Proofs.Ytibjkjhpfmmjoaa.M
attribute [local go_sem] max2_int min2_int max_two min_two max_three min_three max_four min_four
set_option linter.unusedVariables false
set_option linter.unusedSimpArgs false
set_option maxRecDepth 100000 in
set_option maxHeartbeats 8000000 in
theorem implTerms (d n : Nat) (hd : 1 ≤ d ∧ d ≤ 3) (hn : n ≤ 5) (A : Option Addr) (c : Nat) (l : Ts) (w : World) (hr : KT.C w A l.length l) (hb : bnd l = true) :
    Calls Try.prog 102 #[.int .i64 (d : Int), .int .i64 (n : Int), .slice A l.length c] w fun e w' => e = .returned (.bool (isTs d n l)) ∧ Below w.heap.size w w' := by
  have HR := Aside0.mk hr
  have HN := Aside0.mk hb
  have hll := (bnd_iff.1 hb).1
  have HS := Aside0.mk (Sep.refl w)
  clear hr hb
  go_enter Try.func102, Try.ntmps102
  go_wp2
  go_loopw [11] (fun v w' => ∃ k : Nat, k ≤ l.length ∧ v = .int .i64 (k : Int) ∧ Aside0 (∀ j, j < k → okAt d n l j = true) ∧ Aside0 (Mod w w' No [])) (fun v _ => l.length - (intOf v).toNat)
  case atStart => exact ⟨0, by omega, rfl, ⟨fun j hj => by omega⟩, HS⟩
  case round =>
    clear HS
    obtain ⟨k, hk, rfl, HY, HS⟩ := hrel
    by_cases hlt : k < l.length
    · have hs1 := bnd_get HN.out k
      obtain ⟨ad_A, ea_, h0_, h1_, h2_⟩ := tm_at HR.out k (hlt)
      cases ea_
      obtain ⟨t, ht_⟩ : ∃ t_, t_ = l.getD k zT := ⟨_, rfl⟩
      rw [← ht_] at h0_ h1_ h2_
      have Et := Aside0.mk ht_; have H0t := Aside0.mk h0_; have H1t := Aside0.mk h1_; have H2t := Aside0.mk h2_
      clear ht_ h0_ h1_ h2_
      have HK := Aside0.mk (okAt_eq d n l k Et.out)
      have HNO := Aside0.mk (@isTs_no d n l k hlt)
      rw [← Et.out] at hs1
      have hsz : t.1.size ≤ 9223372036854775807 := by omega
      have hd9 : d ≤ 9 := by omega
      cases h1 : (isWd d t.1 && decide (t.1.size ≤ n)) with
      | false =>
        have f1_ := HS.out.old H0t.out
        have f2_ := HS.out.old H1t.out
        have f3_ := HS.out.old H2t.out
        go_wp2_with (first | ((with_reducible refine gate_dst (N := 8) rfl ?_); refine bxL 38 #[(.string ⟨#[]⟩), (.int .i64 0), (.int .i64 0)] HS ?_; clear HS f1_ f2_ f3_; intro g_t w1 hg_t HS) | ((with_reducible refine gate_store (t := 38) (p := 8) rfl ?_); refine stL HS 0 0 #[.string t.1, .int .i64 t.2.1, .int .i64 t.2.2] rfl rfl rfl rfl rfl ?_; clear HS; intro w1 HS))
        replace HS := sD HS
        refine ps (.p 0 (.p 1 (.p 3 (.t 2 (.d 4 (.p 5 (.p 6 (.p 7 (.p 8 (.p 9 (.p 10 (.p 11 (.p 12 (.p 13 (.p 14 (.p 15 (.p 16 (.p 17 (.p 18 (.p 19 (.p 20 (.p 21 (.p 22 (.p 23 (.p 24 (.p 25 (.p 26 (.p 27 (.p 28 (.p 29 (.p 30 (.p 31 (.p 32 (.p 33 .done)))))))))))))))))))))))))))))))))) (fun w' => w'.cell? ⟨g_t, 0, none⟩ = some (.string t.1)) [4] (HS.out.c 0 0 (v := .string t.1) rfl rfl) (fun hHeld => ?_)
        repeat (first | ((with_reducible refine gate_p ?_); refine rp rfl rfl ?_) | ((with_reducible refine gate_p ?_); refine rp0 rfl rfl ?_) | ((with_reducible refine gate_t ?_); refine rt rfl rfl hHeld ?_))
        refine run_d rfl (fun K hK => ?_)
        refine gc Try.func63 (implWord d n hd9 _ hsz _) rfl rfl ?_
        rintro e_ w1 ⟨rfl, hb⟩
        refine ⟨_, rfl, ?_⟩
        replace HS := sB HS hb
        clear hb
        refine gd hK ?_
        clear hK K
        repeat (first | ((with_reducible refine gate_p ?_); refine rp rfl rfl ?_) | ((with_reducible refine gate_p ?_); refine rp0 rfl rfl ?_) | ((with_reducible refine gate_t ?_); refine rt rfl rfl hHeld ?_))
        refine run_done ?_
        clear hHeld
        go_wp2
        go_ret
        exact ⟨ret_bool (HNO.out (by rw [HK.out, ← Bool.and_assoc, h1]; simp)).symm, HS.out.below⟩
      | true =>
        cases h3 : isFr t.2.1 t.2.2 with
        | false =>
          have f1_ := HS.out.old H0t.out
          have f2_ := HS.out.old H1t.out
          have f3_ := HS.out.old H2t.out
          go_wp2_with (first | ((with_reducible refine gate_dst (N := 8) rfl ?_); refine bxL 38 #[(.string ⟨#[]⟩), (.int .i64 0), (.int .i64 0)] HS ?_; clear HS f1_ f2_ f3_; intro g_t w1 hg_t HS) | ((with_reducible refine gate_store (t := 38) (p := 8) rfl ?_); refine stL HS 0 0 #[.string t.1, .int .i64 t.2.1, .int .i64 t.2.2] rfl rfl rfl rfl rfl ?_; clear HS; intro w1 HS))
          replace HS := sD HS
          refine ps (.p 0 (.p 1 (.p 3 (.t 2 (.e 4 (.p 5 (.p 6 (.p 7 (.t 8 (.d 9 (.p 10 (.p 11 (.p 12 (.p 13 (.p 14 (.p 15 (.p 16 (.p 17 (.p 18 (.p 19 (.p 20 (.p 21 (.p 22 (.p 23 (.p 24 (.p 25 (.p 26 (.p 27 (.p 28 (.p 29 (.p 30 (.p 31 (.p 32 (.p 33 .done)))))))))))))))))))))))))))))))))) (fun w' => w'.cell? ⟨g_t, 0, none⟩ = some (.string t.1) ∧ w'.cell? ⟨g_t, 1, none⟩ = some (.int .i64 t.2.1) ∧ w'.cell? ⟨g_t, 2, none⟩ = some (.int .i64 t.2.2)) [9] ⟨HS.out.c 0 0 (v := .string t.1) rfl rfl, HS.out.c 0 1 (v := .int .i64 t.2.1) rfl rfl, HS.out.c 0 2 (v := .int .i64 t.2.2) rfl rfl⟩ (fun hHeld => ?_)
          repeat (first | ((with_reducible refine gate_p ?_); refine rp rfl rfl ?_) | ((with_reducible refine gate_p ?_); refine rp0 rfl rfl ?_) | ((with_reducible refine gate_t ?_); refine rt rfl rfl hHeld ?_))
          refine run_e rfl (fun K hK => ?_)
          refine gc Try.func63 (implWord d n hd9 _ hsz _) rfl rfl ?_
          rintro e_ w1 ⟨rfl, hb⟩
          refine ⟨_, rfl, ?_⟩
          replace HS := sB HS hb
          clear hb
          refine ge hK ⟨HS.out.c 0 0 (v := .string t.1) rfl rfl, HS.out.c 0 1 (v := .int .i64 t.2.1) rfl rfl, HS.out.c 0 2 (v := .int .i64 t.2.2) rfl rfl⟩ (fun hHeld => ?_)
          clear hK K
          repeat (first | ((with_reducible refine gate_p ?_); refine rp rfl rfl ?_) | ((with_reducible refine gate_p ?_); refine rp0 rfl rfl ?_) | ((with_reducible refine gate_t ?_); refine rt rfl rfl hHeld ?_))
          refine run_d rfl (fun K hK => ?_)
          refine gc Try.func96 (implIsFraction _ _ _) rfl rfl ?_
          rintro e_ w1 ⟨rfl, hb⟩
          refine ⟨_, rfl, ?_⟩
          replace HS := sB HS hb
          clear hb
          refine gd hK ?_
          clear hK K
          repeat (first | ((with_reducible refine gate_p ?_); refine rp rfl rfl ?_) | ((with_reducible refine gate_p ?_); refine rp0 rfl rfl ?_) | ((with_reducible refine gate_t ?_); refine rt rfl rfl hHeld ?_))
          refine run_done ?_
          clear hHeld
          go_wp2
          go_ret
          exact ⟨ret_bool (HNO.out (by rw [HK.out, h3]; simp)).symm, HS.out.below⟩
        | true =>
          cases h4 : (t.2.1 == 0) with
          | true =>
            have f1_ := HS.out.old H0t.out
            have f2_ := HS.out.old H1t.out
            have f3_ := HS.out.old H2t.out
            go_wp2_with (first | ((with_reducible refine gate_dst (N := 8) rfl ?_); refine bxL 38 #[(.string ⟨#[]⟩), (.int .i64 0), (.int .i64 0)] HS ?_; clear HS f1_ f2_ f3_; intro g_t w1 hg_t HS) | ((with_reducible refine gate_store (t := 38) (p := 8) rfl ?_); refine stL HS 0 0 #[.string t.1, .int .i64 t.2.1, .int .i64 t.2.2] rfl rfl rfl rfl rfl ?_; clear HS; intro w1 HS))
            replace HS := sD HS
            refine ps (.p 0 (.p 1 (.p 3 (.t 2 (.e 4 (.p 5 (.p 6 (.p 7 (.t 8 (.e 9 (.p 10 (.p 11 (.p 12 (.p 13 (.p 14 (.t 15 (.p 16 (.p 17 (.p 18 (.p 19 (.p 20 (.p 21 (.p 22 (.p 23 (.p 24 (.p 25 (.p 26 (.p 27 (.p 28 (.p 29 (.p 30 (.p 31 (.p 32 (.p 33 .done)))))))))))))))))))))))))))))))))) (fun w' => w'.cell? ⟨g_t, 0, none⟩ = some (.string t.1) ∧ w'.cell? ⟨g_t, 1, none⟩ = some (.int .i64 t.2.1) ∧ w'.cell? ⟨g_t, 2, none⟩ = some (.int .i64 t.2.2)) [] ⟨HS.out.c 0 0 (v := .string t.1) rfl rfl, HS.out.c 0 1 (v := .int .i64 t.2.1) rfl rfl, HS.out.c 0 2 (v := .int .i64 t.2.2) rfl rfl⟩ (fun hHeld => ?_)
            repeat (first | ((with_reducible refine gate_p ?_); refine rp rfl rfl ?_) | ((with_reducible refine gate_p ?_); refine rp0 rfl rfl ?_) | ((with_reducible refine gate_t ?_); refine rt rfl rfl hHeld ?_))
            refine run_e rfl (fun K hK => ?_)
            refine gc Try.func63 (implWord d n hd9 _ hsz _) rfl rfl ?_
            rintro e_ w1 ⟨rfl, hb⟩
            refine ⟨_, rfl, ?_⟩
            replace HS := sB HS hb
            clear hb
            refine ge hK ⟨HS.out.c 0 0 (v := .string t.1) rfl rfl, HS.out.c 0 1 (v := .int .i64 t.2.1) rfl rfl, HS.out.c 0 2 (v := .int .i64 t.2.2) rfl rfl⟩ (fun hHeld => ?_)
            clear hK K
            repeat (first | ((with_reducible refine gate_p ?_); refine rp rfl rfl ?_) | ((with_reducible refine gate_p ?_); refine rp0 rfl rfl ?_) | ((with_reducible refine gate_t ?_); refine rt rfl rfl hHeld ?_))
            refine run_e rfl (fun K hK => ?_)
            refine gc Try.func96 (implIsFraction _ _ _) rfl rfl ?_
            rintro e_ w1 ⟨rfl, hb⟩
            refine ⟨_, rfl, ?_⟩
            replace HS := sB HS hb
            clear hb
            refine ge hK ⟨HS.out.c 0 0 (v := .string t.1) rfl rfl, HS.out.c 0 1 (v := .int .i64 t.2.1) rfl rfl, HS.out.c 0 2 (v := .int .i64 t.2.2) rfl rfl⟩ (fun hHeld => ?_)
            clear hK K
            repeat (first | ((with_reducible refine gate_p ?_); refine rp rfl rfl ?_) | ((with_reducible refine gate_p ?_); refine rp0 rfl rfl ?_) | ((with_reducible refine gate_t ?_); refine rt rfl rfl hHeld ?_))
            refine run_done ?_
            clear hHeld
            go_wp2
            go_ret
            exact ⟨ret_bool (HNO.out (by rw [HK.out, decide_eq_false (p := t.2.1 ≠ 0) (by simpa using h4)]; simp)).symm, HS.out.below⟩
          | false =>
            have HQ := Aside0.mk (show okAt d n l k = (decide (k = 0) || bef (l.getD (k - 1) zT).1 t.1) by rw [HK.out, ← Bool.and_assoc, h1, h3, decide_eq_true (p := t.2.1 ≠ 0) (by simpa using h4)]; rfl)
            by_cases hk0 : k = 0
            · have c0 : decide (0 < (k : Int)) = false := by rw [hk0]; rfl
              have c1 : decide (0 < k) = false := by rw [hk0]; rfl
              have HK0 := Aside0.mk hk0
              clear hk0
              have f1_ := HS.out.old H0t.out
              have f2_ := HS.out.old H1t.out
              have f3_ := HS.out.old H2t.out
              go_wp2_with (first | ((with_reducible refine gate_dst (N := 8) rfl ?_); refine bxL 38 #[(.string ⟨#[]⟩), (.int .i64 0), (.int .i64 0)] HS ?_; clear HS f1_ f2_ f3_; intro g_t w1 hg_t HS) | ((with_reducible refine gate_store (t := 38) (p := 8) rfl ?_); refine stL HS 0 0 #[.string t.1, .int .i64 t.2.1, .int .i64 t.2.2] rfl rfl rfl rfl rfl ?_; clear HS; intro w1 HS))
              replace HS := sD HS
              refine ps (.p 0 (.p 1 (.p 3 (.t 2 (.e 4 (.p 5 (.p 6 (.p 7 (.t 8 (.e 9 (.p 10 (.p 11 (.p 12 (.p 13 (.p 14 (.t 15 (.p 16 (.p 17 (.p 18 (.p 19 (.p 20 (.p 21 (.p 22 (.p 23 (.p 24 (.p 25 (.p 26 (.p 27 (.p 28 (.p 29 (.p 30 (.p 31 (.p 32 (.p 33 .done)))))))))))))))))))))))))))))))))) (fun w' => w'.cell? ⟨g_t, 0, none⟩ = some (.string t.1) ∧ w'.cell? ⟨g_t, 1, none⟩ = some (.int .i64 t.2.1) ∧ w'.cell? ⟨g_t, 2, none⟩ = some (.int .i64 t.2.2)) [] ⟨HS.out.c 0 0 (v := .string t.1) rfl rfl, HS.out.c 0 1 (v := .int .i64 t.2.1) rfl rfl, HS.out.c 0 2 (v := .int .i64 t.2.2) rfl rfl⟩ (fun hHeld => ?_)
              repeat (first | ((with_reducible refine gate_p ?_); refine rp rfl rfl ?_) | ((with_reducible refine gate_p ?_); refine rp0 rfl rfl ?_) | ((with_reducible refine gate_t ?_); refine rt rfl rfl hHeld ?_))
              refine run_e rfl (fun K hK => ?_)
              refine gc Try.func63 (implWord d n hd9 _ hsz _) rfl rfl ?_
              rintro e_ w1 ⟨rfl, hb⟩
              refine ⟨_, rfl, ?_⟩
              replace HS := sB HS hb
              clear hb
              refine ge hK ⟨HS.out.c 0 0 (v := .string t.1) rfl rfl, HS.out.c 0 1 (v := .int .i64 t.2.1) rfl rfl, HS.out.c 0 2 (v := .int .i64 t.2.2) rfl rfl⟩ (fun hHeld => ?_)
              clear hK K
              repeat (first | ((with_reducible refine gate_p ?_); refine rp rfl rfl ?_) | ((with_reducible refine gate_p ?_); refine rp0 rfl rfl ?_) | ((with_reducible refine gate_t ?_); refine rt rfl rfl hHeld ?_))
              refine run_e rfl (fun K hK => ?_)
              refine gc Try.func96 (implIsFraction _ _ _) rfl rfl ?_
              rintro e_ w1 ⟨rfl, hb⟩
              refine ⟨_, rfl, ?_⟩
              replace HS := sB HS hb
              clear hb
              refine ge hK ⟨HS.out.c 0 0 (v := .string t.1) rfl rfl, HS.out.c 0 1 (v := .int .i64 t.2.1) rfl rfl, HS.out.c 0 2 (v := .int .i64 t.2.2) rfl rfl⟩ (fun hHeld => ?_)
              clear hK K
              repeat (first | ((with_reducible refine gate_p ?_); refine rp rfl rfl ?_) | ((with_reducible refine gate_p ?_); refine rp0 rfl rfl ?_) | ((with_reducible refine gate_t ?_); refine rt rfl rfl hHeld ?_))
              refine run_done ?_
              clear hHeld
              go_wp2
              replace HS : Aside0 (Mod _ _ _ []) := sX HS []
              go_roundw
              case rel => exact ⟨k + 1, by omega, by go_num, ⟨round_next HY.out (by rw [HQ.out, decide_eq_true HK0.out]; rfl)⟩, HS⟩
              case measure => simp [intOf]; omega
            · obtain ⟨q, rfl⟩ : ∃ q, k = q + 1 := ⟨k - 1, by omega⟩
              clear hk0
              have c0 : decide (0 < ((q + 1 : Nat) : Int)) = true := decide_eq_true (by omega)
              have c1 : decide (0 < q + 1) = true := decide_eq_true (by omega)
              have hs2 := bnd_get HN.out q
              obtain ⟨adn_, ea_, h0_, h1_, h2_⟩ := tm_at HR.out q ((by omega))
              cases ea_
              obtain ⟨p, ht_⟩ : ∃ t_, t_ = l.getD q zT := ⟨_, rfl⟩
              rw [← ht_] at h0_ h1_ h2_
              have Ep := Aside0.mk ht_; have H0p := Aside0.mk h0_; have H1p := Aside0.mk h1_; have H2p := Aside0.mk h2_
              clear ht_ h0_ h1_ h2_
              rw [← Ep.out] at hs2
              rw [show q + 1 - 1 = q by omega, ← Ep.out] at HQ
              have hq0 : (0 : Int) ≤ q := by omega
              have hq1 : (q : Int) < l.length := by omega
              have HW := Aside0.mk (show IntKind.i64.wrap (q : Int) = (q : Int) from IntWalk.i64_in _ (by omega))
              cases h5 : bef p.1 t.1 with
              | false =>
                have f1_ := HS.out.old H0t.out
                have f2_ := HS.out.old H1t.out
                have f3_ := HS.out.old H2t.out
                go_wp2_with (first | ((with_reducible refine gate_dst (N := 8) rfl ?_); refine bxL 38 #[(.string ⟨#[]⟩), (.int .i64 0), (.int .i64 0)] HS ?_; clear HS f1_ f2_ f3_; intro g_t w1 hg_t HS) | ((with_reducible refine gate_store (t := 38) (p := 8) rfl ?_); refine stL HS 0 0 #[.string t.1, .int .i64 t.2.1, .int .i64 t.2.2] rfl rfl rfl rfl rfl ?_; clear HS; intro w1 HS))
                have hw1 := HW.out
                have hw2 := (i64_w _).symm.trans HW.out
                replace HS := sD HS
                refine ps (.p 0 (.p 1 (.p 3 (.t 2 (.e 4 (.p 5 (.p 6 (.p 7 (.t 8 (.e 9 (.p 10 (.p 11 (.p 12 (.p 13 (.p 14 (.t 15 (.p 16 (.p 17 (.p 18 (.p 19 (.p 20 (.p 21 (.p 22 (.p 23 (.p 24 (.p 25 (.p 26 (.p 28 (.t 27 (.t 29 (.d 30 (.p 31 (.p 32 (.p 33 .done)))))))))))))))))))))))))))))))))) (fun w' => w'.cell? ⟨g_t, 0, none⟩ = some (.string t.1) ∧ w'.cell? ⟨g_t, 1, none⟩ = some (.int .i64 t.2.1) ∧ w'.cell? ⟨g_t, 2, none⟩ = some (.int .i64 t.2.2) ∧ w'.cell? (ad_A.add (q * 3)) = some (.string p.1)) [30] ⟨HS.out.c 0 0 (v := .string t.1) rfl rfl, HS.out.c 0 1 (v := .int .i64 t.2.1) rfl rfl, HS.out.c 0 2 (v := .int .i64 t.2.2) rfl rfl, HS.out.old H0p.out⟩ (fun hHeld => ?_)
                repeat (first | ((with_reducible refine gate_p ?_); refine rp rfl rfl ?_) | ((with_reducible refine gate_t ?_); refine rt rfl rfl hHeld ?_))
                refine run_e rfl (fun K hK => ?_)
                refine gc Try.func63 (implWord d n hd9 _ hsz _) rfl rfl ?_
                rintro e_ w1 ⟨rfl, hb⟩
                refine ⟨_, rfl, ?_⟩
                replace HS := sB HS hb
                clear hb
                refine ge hK ⟨HS.out.c 0 0 (v := .string t.1) rfl rfl, HS.out.c 0 1 (v := .int .i64 t.2.1) rfl rfl, HS.out.c 0 2 (v := .int .i64 t.2.2) rfl rfl, HS.out.old H0p.out⟩ (fun hHeld => ?_)
                clear hK K
                repeat (first | ((with_reducible refine gate_p ?_); refine rp rfl rfl ?_) | ((with_reducible refine gate_t ?_); refine rt rfl rfl hHeld ?_))
                refine run_e rfl (fun K hK => ?_)
                refine gc Try.func96 (implIsFraction _ _ _) rfl rfl ?_
                rintro e_ w1 ⟨rfl, hb⟩
                refine ⟨_, rfl, ?_⟩
                replace HS := sB HS hb
                clear hb
                refine ge hK ⟨HS.out.c 0 0 (v := .string t.1) rfl rfl, HS.out.c 0 1 (v := .int .i64 t.2.1) rfl rfl, HS.out.c 0 2 (v := .int .i64 t.2.2) rfl rfl, HS.out.old H0p.out⟩ (fun hHeld => ?_)
                clear hK K
                repeat (first | ((with_reducible refine gate_p ?_); refine rp rfl rfl ?_) | ((with_reducible refine gate_t ?_); refine rt rfl rfl hHeld ?_))
                refine run_d rfl (fun K hK => ?_)
                refine gc Try.func136 (implCompare _ _ hs2 hs1 _) rfl rfl ?_
                rintro e_ w1 ⟨⟨c9, rfl, hc9⟩, hb⟩
                refine ⟨_, rfl, ?_⟩
                replace HS := sB HS hb
                clear hb
                rw [h5] at hc9
                simp only [Bool.not_true, Bool.not_false] at hc9
                refine gd hK ?_
                clear hK K
                repeat (first | ((with_reducible refine gate_p ?_); refine rp rfl rfl ?_) | ((with_reducible refine gate_t ?_); refine rt rfl rfl hHeld ?_))
                refine run_done ?_
                clear hHeld
                clear hw1 hw2
                go_wp2
                go_ret
                exact ⟨ret_bool (HNO.out (by rw [HQ.out, h5]; simp)).symm, HS.out.below⟩
              | true =>
                have f1_ := HS.out.old H0t.out
                have f2_ := HS.out.old H1t.out
                have f3_ := HS.out.old H2t.out
                go_wp2_with (first | ((with_reducible refine gate_dst (N := 8) rfl ?_); refine bxL 38 #[(.string ⟨#[]⟩), (.int .i64 0), (.int .i64 0)] HS ?_; clear HS f1_ f2_ f3_; intro g_t w1 hg_t HS) | ((with_reducible refine gate_store (t := 38) (p := 8) rfl ?_); refine stL HS 0 0 #[.string t.1, .int .i64 t.2.1, .int .i64 t.2.2] rfl rfl rfl rfl rfl ?_; clear HS; intro w1 HS))
                have hw1 := HW.out
                have hw2 := (i64_w _).symm.trans HW.out
                replace HS := sD HS
                refine ps (.p 0 (.p 1 (.p 3 (.t 2 (.e 4 (.p 5 (.p 6 (.p 7 (.t 8 (.e 9 (.p 10 (.p 11 (.p 12 (.p 13 (.p 14 (.t 15 (.p 16 (.p 17 (.p 18 (.p 19 (.p 20 (.p 21 (.p 22 (.p 23 (.p 24 (.p 25 (.p 26 (.p 28 (.t 27 (.t 29 (.d 30 (.p 31 (.p 32 (.p 33 .done)))))))))))))))))))))))))))))))))) (fun w' => w'.cell? ⟨g_t, 0, none⟩ = some (.string t.1) ∧ w'.cell? ⟨g_t, 1, none⟩ = some (.int .i64 t.2.1) ∧ w'.cell? ⟨g_t, 2, none⟩ = some (.int .i64 t.2.2) ∧ w'.cell? (ad_A.add (q * 3)) = some (.string p.1)) [30] ⟨HS.out.c 0 0 (v := .string t.1) rfl rfl, HS.out.c 0 1 (v := .int .i64 t.2.1) rfl rfl, HS.out.c 0 2 (v := .int .i64 t.2.2) rfl rfl, HS.out.old H0p.out⟩ (fun hHeld => ?_)
                repeat (first | ((with_reducible refine gate_p ?_); refine rp rfl rfl ?_) | ((with_reducible refine gate_t ?_); refine rt rfl rfl hHeld ?_))
                refine run_e rfl (fun K hK => ?_)
                refine gc Try.func63 (implWord d n hd9 _ hsz _) rfl rfl ?_
                rintro e_ w1 ⟨rfl, hb⟩
                refine ⟨_, rfl, ?_⟩
                replace HS := sB HS hb
                clear hb
                refine ge hK ⟨HS.out.c 0 0 (v := .string t.1) rfl rfl, HS.out.c 0 1 (v := .int .i64 t.2.1) rfl rfl, HS.out.c 0 2 (v := .int .i64 t.2.2) rfl rfl, HS.out.old H0p.out⟩ (fun hHeld => ?_)
                clear hK K
                repeat (first | ((with_reducible refine gate_p ?_); refine rp rfl rfl ?_) | ((with_reducible refine gate_t ?_); refine rt rfl rfl hHeld ?_))
                refine run_e rfl (fun K hK => ?_)
                refine gc Try.func96 (implIsFraction _ _ _) rfl rfl ?_
                rintro e_ w1 ⟨rfl, hb⟩
                refine ⟨_, rfl, ?_⟩
                replace HS := sB HS hb
                clear hb
                refine ge hK ⟨HS.out.c 0 0 (v := .string t.1) rfl rfl, HS.out.c 0 1 (v := .int .i64 t.2.1) rfl rfl, HS.out.c 0 2 (v := .int .i64 t.2.2) rfl rfl, HS.out.old H0p.out⟩ (fun hHeld => ?_)
                clear hK K
                repeat (first | ((with_reducible refine gate_p ?_); refine rp rfl rfl ?_) | ((with_reducible refine gate_t ?_); refine rt rfl rfl hHeld ?_))
                refine run_d rfl (fun K hK => ?_)
                refine gc Try.func136 (implCompare _ _ hs2 hs1 _) rfl rfl ?_
                rintro e_ w1 ⟨⟨c9, rfl, hc9⟩, hb⟩
                refine ⟨_, rfl, ?_⟩
                replace HS := sB HS hb
                clear hb
                rw [h5] at hc9
                simp only [Bool.not_true, Bool.not_false] at hc9
                refine gd hK ?_
                clear hK K
                repeat (first | ((with_reducible refine gate_p ?_); refine rp rfl rfl ?_) | ((with_reducible refine gate_t ?_); refine rt rfl rfl hHeld ?_))
                refine run_done ?_
                clear hHeld
                clear hw1 hw2
                go_wp2
                replace HS : Aside0 (Mod _ _ _ []) := sX HS []
                go_roundw
                case rel => exact ⟨q + 1 + 1, by omega, by go_num, ⟨round_next HY.out (by rw [HQ.out, h5]; simp)⟩, HS⟩
                case measure => simp [intOf]; omega
    · have HE := Aside0.mk (isTs_ok.2 (fun j hj => HY.out j (by omega)))
      go_wp2
      go_ret
      exact ⟨ret_bool HE.out.symm, HS.out.below⟩
set_option maxRecDepth 100000 in
set_option maxHeartbeats 4000000 in
theorem implIs (d n : Int) (A : Option Addr) (c : Nat) (l : Ts) (w : World) (hr : KT.C w A l.length l) (hc : l.length ≤ c) (hb : bnd l = true) :
    Calls Try.prog 52 #[.agg #[.int .i64 d, .int .i64 n, .slice A l.length c]] w fun e w' => e = .returned (.bool (isS d n l)) ∧ Below w.heap.size w w' := by
  have HR := Aside0.mk hr
  have HN := Aside0.mk hb
  have HS := Aside0.mk (Sep.refl w)
  clear hr hb
  cases hlev : lev d n with
  | false =>
    rw [isS_no hlev]
    go_enter Try.func52, Try.ntmps52
    go_wp2_with (first | ((with_reducible refine gate_dst (N := 1) rfl ?_); refine bxL 26 #[.int .i64 d, .int .i64 n, .slice A l.length c] HS ?_; clear HS; intro g_x w1 hg_x HS; have f1_ := HS.out.c 0 0 (v := .int .i64 d) rfl rfl; have f2_ := HS.out.c 0 1 (v := .int .i64 n) rfl rfl) | (go_at_call 78; refine (implLevel _ _ _).mono ?_; rintro e_ w1 ⟨rfl, hb⟩; replace HS := sB HS hb; clear hb f1_ f2_))
    go_ret
    exact ⟨rfl, HS.out.below⟩
  | true =>
    obtain ⟨d, n, rfl, rfl, hd1, hd3, hn1, hn5⟩ := lev_nat hlev
    rw [isS_lev hlev]
    go_enter Try.func52, Try.ntmps52
    go_wp2_with (first | ((with_reducible refine gate_dst (N := 1) rfl ?_); refine bxL 26 #[.int .i64 (d : Int), .int .i64 (n : Int), .slice A l.length c] HS ?_; clear HS; intro g_x w1 hg_x HS; have f1_ := HS.out.c 0 0 (v := .int .i64 (d : Int)) rfl rfl; have f2_ := HS.out.c 0 1 (v := .int .i64 (n : Int)) rfl rfl) | (go_at_call 78; refine (implLevel _ _ _).mono ?_; rintro e_ w1 ⟨rfl, hb⟩; replace HS := sB HS hb; clear hb f1_ f2_; have f1_ := HS.out.c 0 0 (v := .int .i64 (d : Int)) rfl rfl; have f2_ := HS.out.c 0 1 (v := .int .i64 (n : Int)) rfl rfl; have f3_ := HS.out.c 0 2 (v := .slice A l.length c) rfl rfl) | (go_at_call 102; refine (implTerms d n ⟨hd1, hd3⟩ hn5 A c l _ (HS.out.oldC HR.out) HN.out).mono ?_; rintro e_ w1 ⟨rfl, hb⟩; replace HS := sB HS hb; clear hb f1_ f2_ f3_))
    go_ret
    exact ⟨rfl, HS.out.below⟩
end Go.Proofs.Ytibjkjhpfmmjoaa.H


namespace Go.Proofs.Ytibjkjhpfmmjoaa.H
open Go.RowKit Go.Proofs.YtibjkjhpfmmjoaaW.PrintWords Go.Proofs.YtibjkjhpfmmjoaaW.PrintLast Go.Proofs.YtibjkjhpfmmjoaaW.PrintMore Go.Proofs.Ytibjkjhpfmmjoaa.M
attribute [local go_sem] max2_int min2_int max_two min_two max_three min_three max_four min_four
set_option linter.unusedVariables false
set_option linter.unusedSimpArgs false
set_option maxRecDepth 100000 in
set_option maxHeartbeats 4000000 in
theorem specValue (d n : Int) (A : Option Addr) (c : Nat) (l : Ts) (u : ByteArray) (w : World) (hr : KT.C w A l.length l) (hc : l.length ≤ c) (hl : l.length ≤ 1048576) :
    Calls Try.prog 120 #[.agg #[.int .i64 d, .int .i64 n, .slice A l.length c], .string u] w fun e w' => e = .returned (.agg #[.int .i64 (co l u).1, .int .i64 (co l u).2]) ∧ Below w.heap.size w w' := by
  have HR := Aside0.mk hr
  have HS := Aside0.mk (Sep.refl w)
  clear hr
  go_enter Try.func120, Try.ntmps120
  go_wp2_with (first | ((with_reducible refine gate_dst (N := 2) rfl ?_); refine bxL 26 #[.int .i64 d, .int .i64 n, .slice A l.length c] HS ?_; clear HS; intro g_x w1 hg_x HS) | ((with_reducible refine gate_dst (N := 4) rfl ?_); refine bxL 34 #[(.int .i64 0), (.int .i64 0)] HS ?_; clear HS; intro g_r w1 hg_r HS))
  go_loopw [5] (fun v w' => ∃ k : Nat, k ≤ l.length ∧ v = .int .i64 (k : Int) ∧ Aside0 (∀ j, j < k → (l.getD j zT).1 ≠ u) ∧ Aside0 (Mod w w' No [bx g_r 34 #[(.int .i64 0), (.int .i64 0)], bx g_x 26 #[.int .i64 d, .int .i64 n, .slice A l.length c]])) (fun v _ => l.length - (intOf v).toNat)
  case atStart => exact ⟨0, by omega, rfl, ⟨fun j hj => by omega⟩, HS⟩
  case round =>
    clear HS
    obtain ⟨k, hk, rfl, HY, HS⟩ := hrel
    by_cases hlt : k < l.length
    · obtain ⟨ad, rfl, h0_, h1_, h2_⟩ := tm_at HR.out k hlt
      have HC := Aside0.mk (@co_take l u k HY.out hlt)
      obtain ⟨t, ht⟩ : ∃ t, t = l.getD k zT := ⟨_, rfl⟩
      have HT := Aside0.mk ht
      rw [← ht] at h0_ h1_ h2_ HC
      clear ht
      have H0 := Aside0.mk h0_
      have H1 := Aside0.mk h1_
      have H2 := Aside0.mk h2_
      clear h0_ h1_ h2_
      by_cases he : t.1 = u
      · have hb : (t.1.toList == u.toList) = true := by rw [str_eq, decide_eq_true he]
        have HE := Aside0.mk he
        clear he
        have f1_ := HS.out.c 1 2 (v := .slice (some ad) l.length c) rfl rfl
        have f2_ := HS.out.old H0.out
        have f3_ := HS.out.old H1.out
        have f4_ := c2 (HS.out.old H2.out)
        go_wp2_with (first | ((with_reducible refine gate_store (t := 34) (p := 4) rfl ?_); refine stL HS 0 0 #[.int .i64 t.2.1, .int .i64 t.2.2] rfl rfl rfl rfl rfl ?_; clear HS f1_ f2_ f3_ f4_; intro w1 HS))
        refine bodyPost_ret (results_cell_row rfl _ _ g_r 34 #[.int .i64 t.2.1, .int .i64 t.2.2] (0, 0) _ rfl (HS.out.at (i := 0) rfl) Try.underlying34 rfl (by kernel_rfl)) rfl ?_
        exact ⟨by rw [HC.out HE.out], HS.out.below⟩
      · have hb : (t.1.toList == u.toList) = false := by rw [str_eq, decide_eq_false he]
        have HE := Aside0.mk he
        clear he
        have f1_ := HS.out.c 1 2 (v := .slice (some ad) l.length c) rfl rfl
        have f2_ := HS.out.old H0.out
        go_wp2
        go_roundw
        case rel => exact ⟨k + 1, by omega, by go_num, ⟨round_next HY.out (by rw [← HT.out]; exact HE.out)⟩, HS⟩
        case measure => simp [intOf]; omega
    · skip
      have f1_ := HS.out.c 1 2 (v := .slice A l.length c) rfl rfl
      go_wp2_with (first | ((with_reducible refine gate_store (t := 34) (p := 4) rfl ?_); refine stL HS 0 0 #[(.int .i64 0), (.int .i64 1)] rfl rfl rfl rfl rfl ?_; clear HS f1_; intro w1 HS))
      refine bodyPost_ret (results_cell_row rfl _ _ g_r 34 #[(.int .i64 0), (.int .i64 1)] (0, 0) _ rfl (HS.out.at (i := 0) rfl) Try.underlying34 rfl (by kernel_rfl)) rfl ?_
      exact ⟨by rw [co_all (fun j hj => HY.out j (by omega))], HS.out.below⟩
end Go.Proofs.Ytibjkjhpfmmjoaa.H



namespace Go.Proofs.Ytibjkjhpfmmjoaa.H
open Go.RowKit Go.Proofs.YtibjkjhpfmmjoaaW.PrintWords Go.Proofs.YtibjkjhpfmmjoaaW.PrintLast Go.Proofs.YtibjkjhpfmmjoaaW.PrintMore Go.Proofs.Ytibjkjhpfmmjoaa.M
attribute [local go_sem] max2_int min2_int max_two min_two max_three min_three max_four min_four
set_option linter.unusedVariables false
set_option linter.unusedSimpArgs false
set_option maxRecDepth 100000
def RetF (w : World) (r : Rf) (e : Ending) (w' : World) : Prop := e = .returned (.tuple #[.agg #[.int .i64 r.1, .int .i64 r.2.1], .int .i64 r.2.2]) ∧ Below w.heap.size w w'
def RetQ (w : World) (r : Int × Int × Ts × Bool) (e : Ending) (w' : World) : Prop := ∃ B b, e = .returned (.tuple #[.agg #[.int .i64 r.1, .int .i64 r.2.1, .slice B r.2.2.1.length b], .bool r.2.2.2]) ∧ Sep w w' [rowT B b r.2.2.1]
theorem specEmpty (d n : Int) (A : Option Addr) (m c : Nat) (w : World) : Calls Try.prog 62 #[.agg #[.int .i64 d, .int .i64 n, .slice A m c]] w fun e w' => ∃ B b, e = .returned (.agg #[.int .i64 d, .int .i64 n, .slice B 0 b]) ∧ Sep w w' [rowT B b []] := by
  have HS := Aside0.mk (Sep.refl w)
  go_enter Try.func62, Try.ntmps62
  go_wp2_with (first | ((with_reducible refine gate_dst (N := 1) rfl ?_); refine bxL 26 #[.int .i64 d, .int .i64 n, .slice A m c] HS ?_; clear HS; intro g_x w1 hg_x HS) | ((with_reducible refine gate_dst (N := 2) rfl ?_); refine bxL 26 #[(.int .i64 0), (.int .i64 0), (.slice none 0 0)] HS ?_; clear HS; intro g_r w1 hg_r HS; have f1_ := HS.out.c 1 0 (v := .int .i64 d) rfl rfl; have f2_ := HS.out.c 1 1 (v := .int .i64 n) rfl rfl) | ((with_reducible refine gate_dst (N := 7) rfl ?_); refine wpList_stp (fun K hK => ?_); refine stp_lit (KT) rfl 38 (by rfl) HS (xs := ([] : Ts)) (inner := []) (by first | (go_simp; done) | (go_simp; rfl)) (fun W base ok => Reps.none _ _) (by simp) ?_; clear HS f1_ f2_; intro A_z c_z w1 HS; refine hK _ _ ?_; clear hK K) | ((with_reducible refine gate_store (t := 26) (p := 2) rfl ?_); refine stL HS 1 0 #[(.int .i64 d), (.int .i64 n), (.slice A_z (([] : Ts)).length c_z)] rfl rfl rfl rfl rfl ?_; clear HS; intro w1 HS))
  refine bodyPost_ret (results_cell_row rfl _ _ g_r 26 #[(.int .i64 d), (.int .i64 n), (.slice A_z (([] : Ts)).length c_z)] (0, 0) _ rfl (HS.out.at (i := 1) rfl) Try.underlying26 rfl (by kernel_rfl)) rfl ?_
  replace HS : Aside0 (Mod _ _ _ [_]) := sX HS [0]
  exact ⟨A_z, c_z, rfl, HS.out⟩
theorem specOne (k : Int) (w : World) : Calls Try.prog 119 #[.int .i64 k] w fun e w' => e = .returned (.agg #[.int .i64 k, .int .i64 1]) ∧ Below w.heap.size w w' := by
  have HS := Aside0.mk (Sep.refl w)
  go_enter Try.func119, Try.ntmps119
  go_wp2_with (first | ((with_reducible refine gate_dst (N := 2) rfl ?_); refine bxL 34 #[(.int .i64 0), (.int .i64 0)] HS ?_; clear HS; intro g_r w1 hg_r HS) | ((with_reducible refine gate_store (t := 34) (p := 2) rfl ?_); refine stL HS 0 0 #[(.int .i64 k), (.int .i64 1)] rfl rfl rfl rfl rfl ?_; clear HS; intro w1 HS))
  refine bodyPost_ret (results_cell_row rfl _ _ g_r 34 #[(.int .i64 k), (.int .i64 1)] (0, 0) _ rfl (HS.out.at (i := 0) rfl) Try.underlying34 rfl (by kernel_rfl)) rfl ?_
  exact ⟨rfl, HS.out.below⟩
set_option maxHeartbeats 4000000 in
theorem specUnit (d n : Int) (A : Option Addr) (m c : Nat) (w : World) : Calls Try.prog 77 #[.agg #[.int .i64 d, .int .i64 n, .slice A m c]] w fun e w' => ∃ B b, e = .returned (.agg #[.int .i64 d, .int .i64 n, .slice B unitT.length b]) ∧ Sep w w' [rowT B b unitT] := by
  have HS := Aside0.mk (Sep.refl w)
  go_enter Try.func77, Try.ntmps77
  go_wp2_with (first | ((with_reducible refine gate_dst (N := 1) rfl ?_); refine bxL 26 #[.int .i64 d, .int .i64 n, .slice A m c] HS ?_; clear HS; intro g_x w1 hg_x HS) | ((with_reducible refine gate_dst (N := 2) rfl ?_); refine bxL 26 #[(.int .i64 0), (.int .i64 0), (.slice none 0 0)] HS ?_; clear HS; intro g_r w1 hg_r HS; have f1_ := HS.out.c 1 0 (v := .int .i64 d) rfl rfl; have f2_ := HS.out.c 1 1 (v := .int .i64 n) rfl rfl; have f3_ := HS.out.c 1 2 (v := .slice A m c) rfl rfl) | (go_at_call 62; refine (specEmpty d n A m c _).mono ?_; rintro e_ w1 ⟨B, b, rfl, hs⟩; replace HS := sN1 HS hs; clear hs f1_ f2_ f3_) | ((with_reducible refine gate_dst (N := 3) rfl ?_); refine bxL 26 #[(.int .i64 0), (.int .i64 0), (.slice none 0 0)] HS ?_; clear HS; intro g_y w1 hg_y HS) | ((with_reducible refine gate_store (t := 26) (p := 3) rfl ?_); refine stL HS 0 0 #[.int .i64 d, .int .i64 n, .slice B ([] : Ts).length b] rfl rfl rfl rfl rfl ?_; clear HS; intro w1 HS))
  replace HS := sD HS
  refine ps (.p 0 (.t 1 (.e 2 (.p 3 (.e 4 (.d 5 (.p 6 (.d 7 .done)))))))) (fun w' => w'.cell? ⟨g_y, 2, none⟩ = some (.slice B ([] : Ts).length b)) [5, 7] (HS.out.c 0 2 (v := .slice B ([] : Ts).length b) rfl rfl) (fun hHeld => ?_)
  repeat (first | ((with_reducible refine gate_p ?_); refine rp rfl rfl ?_) | ((with_reducible refine gate_t ?_); refine rt rfl rfl hHeld ?_))
  refine run_e rfl (fun K hK => ?_)
  refine gc Try.func119 (specOne 1 _) rfl rfl ?_
  rintro e_ w1 ⟨rfl, hb⟩
  refine ⟨_, rfl, ?_⟩
  replace HS := sB HS hb
  clear hb
  refine ge hK (HS.out.c 0 2 (v := .slice B ([] : Ts).length b) rfl rfl) (fun hHeld => ?_)
  clear hK K
  repeat (first | ((with_reducible refine gate_p ?_); refine rp rfl rfl ?_) | ((with_reducible refine gate_t ?_); refine rt rfl rfl hHeld ?_))
  refine run_e rfl (fun K hK => ?_)
  refine stp_lit (KT) rfl 38 (by rfl) HS (xs := [((eps, 1, 1) : Tm)]) (inner := [.string eps, .int .i64 1, .int .i64 1]) (by first | (go_simp; done) | (go_simp; rfl)) (fun W base ok => Reps.snoc (Reps.none _ _) (KT_M (eps, 1, 1) W base ok) rfl) (by simp) ?_
  clear HS
  intro A_z c_z w1 HS
  refine ge hK (HS.out.c 1 2 (v := .slice B ([] : Ts).length b) rfl rfl) (fun hHeld => ?_)
  clear hK K
  refine run_d rfl (fun K hK => ?_)
  refine stp_rows KT rfl (fun _ _ _ _ _ h => h) (by rfl) HS 2 (xs := []) rfl (.tmp 7) (.tmp 10) 24 (.agg #[(.string ⟨#[]⟩), (.int .i64 0), (.int .i64 0)]) 32 rfl Try.underlying24 infoTerm (by kernel_rfl) [((eps, 1, 1) : Tm)] rfl rfl (HS.out.reads 0 rfl) (by decide) ?_
  clear HS
  intro A_y' c_y' y' w1 Ny' HS
  simp only [List.set_cons_zero, List.set_cons_succ] at HS
  refine gd hK ?_
  clear hK K
  repeat (first | ((with_reducible refine gate_p ?_); refine rp rfl rfl ?_) | ((with_reducible refine gate_t ?_); refine rt rfl rfl hHeld ?_))
  refine run_d rfl (fun K hK => ?_)
  refine st1 HS 1 2 #[.int .i64 d, .int .i64 n, (.slice A_y' y'.length c_y')] rfl rfl rfl rfl rfl ?_
  clear HS
  intro w1 HS
  refine goD hK rfl ?_
  clear hK K
  refine run_done ?_
  clear hHeld
  have f1_ := HS.out.c 1 0 (v := .int .i64 d) rfl rfl
  have f2_ := HS.out.c 1 1 (v := .int .i64 n) rfl rfl
  have f3_ := HS.out.c 1 2 (v := (.slice A_y' y'.length c_y')) rfl rfl
  go_wp2_with (first | ((with_reducible refine gate_store (t := 26) (p := 2) rfl ?_); refine stL HS 3 0 #[.int .i64 d, .int .i64 n, (.slice A_y' y'.length c_y')] rfl rfl rfl rfl rfl ?_; clear HS f1_ f2_ f3_; intro w1 HS))
  refine bodyPost_ret (results_cell_row rfl _ _ g_r 26 #[.int .i64 d, .int .i64 n, (.slice A_y' y'.length c_y')] (0, 0) _ rfl (HS.out.at (i := 3) rfl) Try.underlying26 rfl (by kernel_rfl)) rfl ?_
  obtain rfl := Ny'.out
  replace HS : Aside0 (Mod _ _ _ [_]) := sX HS [2]
  exact ⟨A_y', c_y', rfl, HS.out⟩
theorem nilS {w W : World} (h : Sep w W []) : Sep w W [rowT none 0 []] := by
  have := (h.nil (d := KT) (hE := rfl) (e := 38))
  exact this
theorem specConstant (d n : Int) (A : Option Addr) (c : Nat) (l : Ts) (w : World) (hr : KT.C w A l.length l) (hc : l.length ≤ c) (hb : bnd l = true) :
    Calls Try.prog 82 #[.agg #[.int .i64 d, .int .i64 n, .slice A l.length c]] w fun e w' => e = .returned (.agg #[.int .i64 (co l eps).1, .int .i64 (co l eps).2]) ∧ Below w.heap.size w w' := by
  have HR := Aside0.mk hr
  have hll := (bnd_iff.1 hb).1
  have HS := Aside0.mk (Sep.refl w)
  clear hr hb
  go_enter Try.func82, Try.ntmps82
  go_wp2_with (first | ((with_reducible refine gate_dst (N := 1) rfl ?_); refine bxL 26 #[.int .i64 d, .int .i64 n, .slice A l.length c] HS ?_; clear HS; intro g_x w1 hg_x HS) | ((with_reducible refine gate_dst (N := 2) rfl ?_); refine bxL 34 #[(.int .i64 0), (.int .i64 0)] HS ?_; clear HS; intro g_r w1 hg_r HS; have f1_ := HS.out.c 1 0 (v := .int .i64 d) rfl rfl; have f2_ := HS.out.c 1 1 (v := .int .i64 n) rfl rfl; have f3_ := HS.out.c 1 2 (v := .slice A l.length c) rfl rfl) | (go_at_call 120; refine (specValue d n A c l eps _ (HS.out.oldC HR.out) hc hll).mono ?_; rintro e_ w1 ⟨rfl, hb⟩; replace HS := sB HS hb; clear hb f1_ f2_ f3_) | ((with_reducible refine gate_store (t := 34) (p := 2) rfl ?_); refine stL HS 0 0 #[.int .i64 (co l eps).1, .int .i64 (co l eps).2] rfl rfl rfl rfl rfl ?_; clear HS; intro w1 HS))
  refine bodyPost_ret (results_cell_row rfl _ _ g_r 34 #[.int .i64 (co l eps).1, .int .i64 (co l eps).2] (0, 0) _ rfl (HS.out.at (i := 0) rfl) Try.underlying34 rfl (by kernel_rfl)) rfl ?_
  exact ⟨rfl, HS.out.below⟩
end Go.Proofs.Ytibjkjhpfmmjoaa.H



