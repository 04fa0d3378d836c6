/- Plain facts and contracts of functions that the law's walk uses. Conditions: those that stand in each statement. -/
import Derived.Test.YtibjkjhpfmmjoaaShG3
import Derived.WalkLawsBesides
import Derived.Test.YtibjkjhpfmmjoaaShG2
import Derived.Test.YtibjkjhpfmmjoaaShG4
import Derived.Test.YtibjkjhpfmmjoaaShG1
set_option linter.unusedVariables false
set_option linter.unusedSimpArgs false
namespace Go.Proofs.Ytibjkjhpfmmjoaa.M
theorem cmp_neg : ∀ (a b : List UInt8), Lib.compareBytes a b < 0 ↔ bless a b = true
  | [], [] => by simp [Lib.compareBytes, bless, Go.Op.bytesLess]
  | [], _ :: _ => by simp [Lib.compareBytes, bless, Go.Op.bytesLess]
  | _ :: _, [] => by simp [Lib.compareBytes, bless, Go.Op.bytesLess]
  | a :: x, b :: y => by
    have ih := cmp_neg x y
    simp only [Lib.compareBytes, bless, Go.Op.bytesLess] at ih ⊢
    by_cases h : a < b
    · simp [h]
    · rw [if_neg h]
      by_cases k : b < a
      · rw [if_pos k]
        have : ¬ a = b := fun e => by subst e; exact absurd k (UInt8.lt_irrefl _)
        simp [h, this]
      · rw [if_neg k]
        have e : a = b := UInt8.toNat_inj.1 (by rw [UInt8.lt_iff_toNat_lt] at h k; omega)
        subst e
        simp [ih, h]
theorem bef_same {a b : ByteArray} (h : a.size = b.size) : bef a b = bless (bl a) (bl b) := by unfold bef befL; rw [bl_len, bl_len, if_pos h]
theorem bef_other {a b : ByteArray} (h : a.size ≠ b.size) : bef a b = decide (a.size < b.size) := by unfold bef befL; rw [bl_len, bl_len, if_neg h]
end Go.Proofs.Ytibjkjhpfmmjoaa.M
namespace Go.Proofs.Ytibjkjhpfmmjoaa.H
open Go.RowKit Go.Proofs.YtibjkjhpfmmjoaaW.PrintWords Go.Proofs.YtibjkjhpfmmjoaaW.PrintLast Go.Proofs.YtibjkjhpfmmjoaaW.PrintMore Go.Proofs.Ytibjkjhpfmmjoaa.M
attribute [local go_sem] max2_int min2_int max_two min_two max_three min_three max_four min_four
set_option linter.unusedVariables false
set_option linter.unusedSimpArgs false
def okAt (d n : Nat) (l : Ts) (j : Nat) : Bool := isTm d n (l.getD j zT) && (decide (j = 0) || bef (l.getD (j - 1) zT).1 (l.getD j zT).1)
theorem isTs_ok {d n : Nat} {l : Ts} : isTs d n l = true ↔ ∀ j, j < l.length → okAt d n l j = true := by
  rw [isTs_at]
  constructor
  · intro h j hj
    obtain ⟨h1, h2⟩ := h j hj
    rw [okAt, getD_lt l zT j hj, h1, Bool.true_and, Bool.or_eq_true, decide_eq_true_eq]
    rcases Nat.eq_zero_or_pos j with e | e
    · exact .inl e
    · rw [getD_lt l zT (j - 1) (by omega)]; exact .inr (h2 e)
  · intro h j hj
    have h1 := h j hj
    rw [okAt, getD_lt l zT j hj, Bool.and_eq_true, Bool.or_eq_true, decide_eq_true_eq] at h1
    refine ⟨h1.1, fun h0 => ?_⟩
    rcases h1.2 with e | e
    · omega
    · rwa [getD_lt l zT (j - 1) (by omega)] at e
theorem isTs_no {d n : Nat} {l : Ts} {j : Nat} (hj : j < l.length) (h : okAt d n l j = false) : isTs d n l = false := by
  rw [← Bool.not_eq_true, isTs_ok]
  intro hh
  rw [hh j hj] at h
  cases h
theorem bnd_get {l : Ts} (h : bnd l = true) (j : Nat) : (l.getD j zT).1.size ≤ 1048576 := by
  by_cases hj : j < l.length
  · rw [getD_lt l zT j hj]; exact (bnd_iff.1 h).2 _ (List.getElem_mem _)
  · rw [List.getD_eq_getElem?_getD, List.getElem?_eq_none (by omega)]; show (ByteArray.mk #[]).size ≤ _; decide
theorem okAt_eq (d n : Nat) (l : Ts) (k : Nat) {t : Tm} (ht : t = l.getD k zT) : okAt d n l k = ((isWd d t.1 && (decide (t.1.size ≤ n) && (isFr t.2.1 t.2.2 && decide (t.2.1 ≠ 0)))) && (decide (k = 0) || bef (l.getD (k - 1) zT).1 t.1)) := by subst ht; rfl
set_option maxHeartbeats 1000000 in
theorem specBefore (a b : ByteArray) (w : World) (ha : a.size ≤ 9223372036854775807) (hb : b.size ≤ 9223372036854775807) : Calls Try.prog 109 #[.string a, .string b] w fun e w' => e = .returned (.bool (bef a b)) ∧ Below w.heap.size w w' := by
  by_cases h : a.size = b.size
  · have HL := Lib.hid (bef_same h)
    have h1 : ((a.size : Int) != (b.size : Int)) = false := by rw [bne_eq_false_iff_eq]; omega
    clear h
    go_enter Try.func109, Try.ntmps109
    go_wp2
    go_ret
    exact ⟨ret_bool (by rw [HL.out, ByteArray.toList_eq, ByteArray.toList_eq]; first | done | rfl), Below.refl _ _⟩
  · have HL := Lib.hid (bef_other h)
    have h1 : ((a.size : Int) != (b.size : Int)) = true := by rw [bne_iff_ne]; omega
    clear h
    go_enter Try.func109, Try.ntmps109
    go_wp2
    go_ret
    exact ⟨ret_bool (by rw [HL.out]; first | done | simp), Below.refl _ _⟩
set_option maxHeartbeats 1000000 in
theorem implCompare (a b : ByteArray) (ha : a.size ≤ 1048576) (hb : b.size ≤ 1048576) (w : World) : Calls Try.prog 136 #[.string a, .string b] w fun e w' => (∃ c : Int, e = .returned (.int .i64 c) ∧ decide (0 ≤ c) = !bef a b) ∧ Below w.heap.size w w' := by
  by_cases h : a.size = b.size
  · have HL := Lib.hid (bef_same h)
    have h1 : ((a.size : Int) != (b.size : Int)) = false := by rw [bne_eq_false_iff_eq]; omega
    clear h
    go_enter Try.func136, Try.ntmps136
    go_wp2_with (first | (go_at_call 144; refine (stringsCompare _ _ _).mono ?_; rintro e w1 ⟨rfl, n_, rfl⟩))
    go_ret
    refine ⟨⟨_, rfl, ?_⟩, pw_below_drewN (Below.refl _ _) _⟩
    rw [HL.out]
    have := cmp_neg (bl a) (bl b)
    cases hh : bless (bl a) (bl b) with
    | true => rw [hh] at this; have := this.2 rfl; unfold bl at this; simp; omega
    | false => rw [hh] at this; have : ¬ _ := fun h => absurd (this.1 h) (by simp); unfold bl at this; simp; omega
  · have HL := Lib.hid (bef_other h)
    have h1 : ((a.size : Int) != (b.size : Int)) = true := by rw [bne_iff_ne]; omega
    clear h
    go_enter Try.func136, Try.ntmps136
    go_wp2
    go_ret
    exact ⟨⟨_, rfl, by rw [HL.out, ← decide_not]; exact decide_eq_decide.2 (by omega)⟩, Below.refl _ _⟩
theorem specInB (a b c : Int) (w : World) : Calls Try.prog 61 #[.int .i64 a, .int .i64 b, .int .i64 c] w fun e w' => e = .returned (.bool (inR a b c)) ∧ Below w.heap.size w w' := quietB (specIn a b c w)
theorem implInB (a b c : Int) (w : World) : Calls Try.prog 58 #[.int .i64 a, .int .i64 b, .int .i64 c] w fun e w' => e = .returned (.bool (inR a b c)) ∧ Below w.heap.size w w' := quietB (implIn a b c w)
theorem lev_nat {d n : Int} (h : lev d n = true) : ∃ d' n' : Nat, d = d' ∧ n = n' ∧ 1 ≤ d' ∧ d' ≤ 3 ∧ 1 ≤ n' ∧ n' ≤ 5 := by
  have := lev_iff.1 h
  exact ⟨d.toNat, n.toNat, by omega, by omega, by omega, by omega, by omega, by omega⟩
theorem isS_lev {d n : Nat} {l : Ts} (h : lev d n = true) : isS d n l = isTs d n l := by unfold isS; rw [h]; rfl
theorem isS_no {d n : Int} {l : Ts} (h : lev d n = false) : isS d n l = false := by unfold isS; rw [h]; rfl
set_option maxRecDepth 100000 in
set_option maxHeartbeats 8000000 in
theorem specIs (d n : Int) (A : Option Addr) (c : Nat) (l : Ts) (w : World) (hr : KT.C w A l.length l) (hc : l.length ≤ c) (hb : bnd l = true) :
    Calls Try.prog 54 #[.agg #[.int .i64 d, .int .i64 n, .slice A l.length c]] w fun e w' => e = .returned (.bool (isS d n l)) ∧ Below w.heap.size w w' := by
  have HR := Aside0.mk hr
  have HN := Aside0.mk hb
  have hll := (bnd_iff.1 hb).1
  have HS := Aside0.mk (Sep.refl w)
  clear hr hb
  cases hlev : lev d n with
  | false =>
    rw [isS_no hlev]
    go_enter Try.func54, Try.ntmps54
    go_wp2_with (first | ((with_reducible refine gate_dst (N := 1) rfl ?_); refine bxL 26 #[.int .i64 d, .int .i64 n, .slice A l.length c] HS ?_; clear HS; intro g_x w1 hg_x HS; have f1_ := HS.out.c 0 0 (v := .int .i64 d) rfl rfl; have f2_ := HS.out.c 0 1 (v := .int .i64 n) rfl rfl) | (go_at_call 89; refine (specSizes _ _ _).mono ?_; rintro e_ w1 ⟨rfl, hb⟩; replace HS := sB HS hb; clear hb f1_ f2_))
    go_ret
    exact ⟨rfl, HS.out.below⟩
  | true =>
    obtain ⟨d, n, rfl, rfl, hd1, hd3, hn1, hn5⟩ := lev_nat hlev
    rw [isS_lev hlev]
    go_enter Try.func54, Try.ntmps54
    go_wp2_with (first | ((with_reducible refine gate_dst (N := 1) rfl ?_); refine bxL 26 #[.int .i64 (d : Int), .int .i64 (n : Int), .slice A l.length c] HS ?_; clear HS; intro g_x w1 hg_x HS; have f1_ := HS.out.c 0 0 (v := .int .i64 (d : Int)) rfl rfl; have f2_ := HS.out.c 0 1 (v := .int .i64 (n : Int)) rfl rfl) | (go_at_call 89; refine (specSizes _ _ _).mono ?_; rintro e_ w1 ⟨rfl, hb⟩; replace HS := sB HS hb; clear hb f1_ f2_))
    clear hlev
    go_loopw [3] (fun v w' => ∃ k : Nat, k ≤ l.length ∧ v = .int .i64 (k : Int) ∧ Aside0 (∀ j, j < k → okAt d n l j = true) ∧ Aside0 (Mod w w' No [bx g_x 26 #[.int .i64 (d : Int), .int .i64 (n : Int), .slice A l.length c]])) (fun v _ => l.length - (intOf v).toNat)
    case atStart => exact ⟨0, by omega, rfl, ⟨fun j hj => by omega⟩, HS⟩
    case round =>
      clear HS
      obtain ⟨k, hk, rfl, HY, HS⟩ := hrel
      by_cases hlt : k < l.length
      · have hs1 := bnd_get HN.out k
        obtain ⟨ad_A, ea_, h0_, h1_, h2_⟩ := tm_at HR.out k (hlt)
        cases ea_
        obtain ⟨t, ht_⟩ : ∃ t_, t_ = l.getD k zT := ⟨_, rfl⟩
        rw [← ht_] at h0_ h1_ h2_
        have Et := Aside0.mk ht_; have H0t := Aside0.mk h0_; have H1t := Aside0.mk h1_; have H2t := Aside0.mk h2_
        clear ht_ h0_ h1_ h2_
        have HK := Aside0.mk (okAt_eq d n l k Et.out)
        have HNO := Aside0.mk (@isTs_no d n l k hlt)
        rw [← Et.out] at hs1
        have hsz : t.1.size ≤ 9223372036854775807 := by omega
        by_cases h1 : n < t.1.size
        · have HZ := Aside0.mk (show decide (t.1.size ≤ n) = false from decide_eq_false (by omega))
          have f1_ := HS.out.c 0 2 (v := .slice (some ad_A) l.length c) rfl rfl
          have f2_ := HS.out.old H0t.out
          have f3_ := HS.out.old H1t.out
          have f4_ := HS.out.old H2t.out
          go_wp2_with (first | ((with_reducible refine gate_dst (N := 4) rfl ?_); refine bxL 38 #[(.string ⟨#[]⟩), (.int .i64 0), (.int .i64 0)] HS ?_; clear HS f1_ f2_ f3_ f4_; intro g_t w1 hg_t HS) | ((with_reducible refine gate_store (t := 38) (p := 4) rfl ?_); refine stL HS 0 0 #[.string t.1, .int .i64 t.2.1, .int .i64 t.2.2] rfl rfl rfl rfl rfl ?_; clear HS; intro w1 HS; have f1_ := HS.out.c 0 0 (v := .string t.1) rfl rfl; have f2_ := HS.out.c 1 1 (v := .int .i64 (n : Int)) rfl rfl))
          go_ret
          exact ⟨ret_bool (HNO.out (by rw [HK.out, HZ.out]; simp)).symm, HS.out.below⟩
        · have HZ := Aside0.mk (show decide (t.1.size ≤ n) = true from decide_eq_true (by omega))
          cases h2 : isWd d t.1 with
          | false =>
            have f1_ := HS.out.c 0 2 (v := .slice (some ad_A) l.length c) rfl rfl
            have f2_ := HS.out.old H0t.out
            have f3_ := HS.out.old H1t.out
            have f4_ := HS.out.old H2t.out
            go_wp2_with (first | ((with_reducible refine gate_dst (N := 4) rfl ?_); refine bxL 38 #[(.string ⟨#[]⟩), (.int .i64 0), (.int .i64 0)] HS ?_; clear HS f1_ f2_ f3_ f4_; intro g_t w1 hg_t HS) | ((with_reducible refine gate_store (t := 38) (p := 4) rfl ?_); refine stL HS 0 0 #[.string t.1, .int .i64 t.2.1, .int .i64 t.2.2] rfl rfl rfl rfl rfl ?_; clear HS; intro w1 HS; have f1_ := HS.out.c 0 0 (v := .string t.1) rfl rfl; have f2_ := HS.out.c 1 1 (v := .int .i64 (n : Int)) rfl rfl; have f3_ := HS.out.c 1 0 (v := .int .i64 (d : Int)) rfl rfl) | (go_at_call 90; refine (specWord d (by omega) _ hsz _).mono ?_; rintro e_ w1 ⟨rfl, hb⟩; replace HS := sB HS hb; clear hb f1_ f2_ f3_))
            go_ret
            exact ⟨ret_bool (HNO.out (by rw [HK.out, h2]; simp)).symm, HS.out.below⟩
          | true =>
            cases h3 : isFr t.2.1 t.2.2 with
            | false =>
              have f1_ := HS.out.c 0 2 (v := .slice (some ad_A) l.length c) rfl rfl
              have f2_ := HS.out.old H0t.out
              have f3_ := HS.out.old H1t.out
              have f4_ := HS.out.old H2t.out
              go_wp2_with (first | ((with_reducible refine gate_dst (N := 4) rfl ?_); refine bxL 38 #[(.string ⟨#[]⟩), (.int .i64 0), (.int .i64 0)] HS ?_; clear HS f1_ f2_ f3_ f4_; intro g_t w1 hg_t HS) | ((with_reducible refine gate_store (t := 38) (p := 4) rfl ?_); refine stL HS 0 0 #[.string t.1, .int .i64 t.2.1, .int .i64 t.2.2] rfl rfl rfl rfl rfl ?_; clear HS; intro w1 HS; have f1_ := HS.out.c 0 0 (v := .string t.1) rfl rfl; have f2_ := HS.out.c 1 1 (v := .int .i64 (n : Int)) rfl rfl; have f3_ := HS.out.c 1 0 (v := .int .i64 (d : Int)) rfl rfl) | (go_at_call 90; refine (specWord d (by omega) _ hsz _).mono ?_; rintro e_ w1 ⟨rfl, hb⟩; replace HS := sB HS hb; clear hb f1_ f2_ f3_; have f1_ := HS.out.c 0 1 (v := .int .i64 t.2.1) rfl rfl; have f2_ := HS.out.c 0 2 (v := .int .i64 t.2.2) rfl rfl) | (go_at_call 107; refine (specIsFrac _ _ _).mono ?_; rintro e_ w1 ⟨rfl, hb⟩; replace HS := sB HS hb; clear hb f1_ f2_))
              go_ret
              exact ⟨ret_bool (HNO.out (by rw [HK.out, h3]; simp)).symm, HS.out.below⟩
            | true =>
              cases h4 : (t.2.1 == 0) with
              | true =>
                have f1_ := HS.out.c 0 2 (v := .slice (some ad_A) l.length c) rfl rfl
                have f2_ := HS.out.old H0t.out
                have f3_ := HS.out.old H1t.out
                have f4_ := HS.out.old H2t.out
                go_wp2_with (first | ((with_reducible refine gate_dst (N := 4) rfl ?_); refine bxL 38 #[(.string ⟨#[]⟩), (.int .i64 0), (.int .i64 0)] HS ?_; clear HS f1_ f2_ f3_ f4_; intro g_t w1 hg_t HS) | ((with_reducible refine gate_store (t := 38) (p := 4) rfl ?_); refine stL HS 0 0 #[.string t.1, .int .i64 t.2.1, .int .i64 t.2.2] rfl rfl rfl rfl rfl ?_; clear HS; intro w1 HS; have f1_ := HS.out.c 0 0 (v := .string t.1) rfl rfl; have f2_ := HS.out.c 1 1 (v := .int .i64 (n : Int)) rfl rfl; have f3_ := HS.out.c 1 0 (v := .int .i64 (d : Int)) rfl rfl) | (go_at_call 90; refine (specWord d (by omega) _ hsz _).mono ?_; rintro e_ w1 ⟨rfl, hb⟩; replace HS := sB HS hb; clear hb f1_ f2_ f3_; have f1_ := HS.out.c 0 1 (v := .int .i64 t.2.1) rfl rfl; have f2_ := HS.out.c 0 2 (v := .int .i64 t.2.2) rfl rfl) | (go_at_call 107; refine (specIsFrac _ _ _).mono ?_; rintro e_ w1 ⟨rfl, hb⟩; replace HS := sB HS hb; clear hb f1_ f2_; have f1_ := HS.out.c 0 1 (v := .int .i64 t.2.1) rfl rfl; have f2_ := HS.out.c 0 2 (v := .int .i64 t.2.2) rfl rfl) | (go_at_call 108; refine (specZero _ _ _).mono ?_; rintro e_ w1 ⟨rfl, hb⟩; replace HS := sB HS hb; clear hb f1_ f2_))
                go_ret
                exact ⟨ret_bool (HNO.out (by rw [HK.out, decide_eq_false (p := t.2.1 ≠ 0) (by simpa using h4)]; simp)).symm, HS.out.below⟩
              | false =>
                have HQ := Aside0.mk (show okAt d n l k = (decide (k = 0) || bef (l.getD (k - 1) zT).1 t.1) by rw [HK.out, h2, HZ.out, h3, decide_eq_true (p := t.2.1 ≠ 0) (by simpa using h4)]; rfl)
                by_cases hk0 : k = 0
                · have c0 : decide (0 < (k : Int)) = false := by rw [hk0]; rfl
                  have c1 : decide (0 < k) = false := by rw [hk0]; rfl
                  have HK0 := Aside0.mk hk0
                  clear hk0
                  have f1_ := HS.out.c 0 2 (v := .slice (some ad_A) l.length c) rfl rfl
                  have f2_ := HS.out.old H0t.out
                  have f3_ := HS.out.old H1t.out
                  have f4_ := HS.out.old H2t.out
                  go_wp2_with (first | ((with_reducible refine gate_dst (N := 4) rfl ?_); refine bxL 38 #[(.string ⟨#[]⟩), (.int .i64 0), (.int .i64 0)] HS ?_; clear HS f1_ f2_ f3_ f4_; intro g_t w1 hg_t HS) | ((with_reducible refine gate_store (t := 38) (p := 4) rfl ?_); refine stL HS 0 0 #[.string t.1, .int .i64 t.2.1, .int .i64 t.2.2] rfl rfl rfl rfl rfl ?_; clear HS; intro w1 HS; have f1_ := HS.out.c 0 0 (v := .string t.1) rfl rfl; have f2_ := HS.out.c 1 1 (v := .int .i64 (n : Int)) rfl rfl; have f3_ := HS.out.c 1 0 (v := .int .i64 (d : Int)) rfl rfl) | (go_at_call 90; refine (specWord d (by omega) _ hsz _).mono ?_; rintro e_ w1 ⟨rfl, hb⟩; replace HS := sB HS hb; clear hb f1_ f2_ f3_; have f1_ := HS.out.c 0 1 (v := .int .i64 t.2.1) rfl rfl; have f2_ := HS.out.c 0 2 (v := .int .i64 t.2.2) rfl rfl) | (go_at_call 107; refine (specIsFrac _ _ _).mono ?_; rintro e_ w1 ⟨rfl, hb⟩; replace HS := sB HS hb; clear hb f1_ f2_; have f1_ := HS.out.c 0 1 (v := .int .i64 t.2.1) rfl rfl; have f2_ := HS.out.c 0 2 (v := .int .i64 t.2.2) rfl rfl) | (go_at_call 108; refine (specZero _ _ _).mono ?_; rintro e_ w1 ⟨rfl, hb⟩; replace HS := sB HS hb; clear hb f1_ f2_))
                  replace HS := sD HS
                  refine ps (.p 0 (.p 1 (.p 2 (.p 3 (.p 4 (.p 5 (.p 6 (.p 7 (.p 8 (.p 9 (.p 10 (.p 11 (.p 12 (.p 13 (.p 14 .done))))))))))))))) (fun w' => True) [] trivial (fun hHeld => ?_)
                  repeat (first | ((with_reducible refine gate_p ?_); refine rp rfl rfl ?_) | ((with_reducible refine gate_p ?_); refine rp0 rfl rfl ?_))
                  refine run_done ?_
                  clear hHeld
                  go_wp2
                  replace HS : Aside0 (Mod _ _ _ [_]) := sX HS [1]
                  go_roundw
                  case rel => exact ⟨k + 1, by omega, by go_num, ⟨round_next HY.out (by rw [HQ.out, decide_eq_true HK0.out]; rfl)⟩, HS⟩
                  case measure => simp [intOf]; omega
                · obtain ⟨q, rfl⟩ : ∃ q, k = q + 1 := ⟨k - 1, by omega⟩
                  clear hk0
                  have c0 : decide (0 < ((q + 1 : Nat) : Int)) = true := decide_eq_true (by omega)
                  have c1 : decide (0 < q + 1) = true := decide_eq_true (by omega)
                  have hs2 := bnd_get HN.out q
                  obtain ⟨adn_, ea_, h0_, h1_, h2_⟩ := tm_at HR.out q ((by omega))
                  cases ea_
                  obtain ⟨p, ht_⟩ : ∃ t_, t_ = l.getD q zT := ⟨_, rfl⟩
                  rw [← ht_] at h0_ h1_ h2_
                  have Ep := Aside0.mk ht_; have H0p := Aside0.mk h0_; have H1p := Aside0.mk h1_; have H2p := Aside0.mk h2_
                  clear ht_ h0_ h1_ h2_
                  rw [← Ep.out] at hs2
                  rw [show q + 1 - 1 = q by omega, ← Ep.out] at HQ
                  have hq0 : (0 : Int) ≤ q := by omega
                  have hq1 : (q : Int) < l.length := by omega
                  have HW := Aside0.mk (show IntKind.i64.wrap (q : Int) = (q : Int) from IntWalk.i64_in _ (by omega))
                  have hsp : p.1.size ≤ 9223372036854775807 := by omega
                  cases h5 : bef p.1 t.1 with
                  | false =>
                    have f1_ := HS.out.c 0 2 (v := .slice (some ad_A) l.length c) rfl rfl
                    have f2_ := HS.out.old H0t.out
                    have f3_ := HS.out.old H1t.out
                    have f4_ := HS.out.old H2t.out
                    go_wp2_with (first | ((with_reducible refine gate_dst (N := 4) rfl ?_); refine bxL 38 #[(.string ⟨#[]⟩), (.int .i64 0), (.int .i64 0)] HS ?_; clear HS f1_ f2_ f3_ f4_; intro g_t w1 hg_t HS) | ((with_reducible refine gate_store (t := 38) (p := 4) rfl ?_); refine stL HS 0 0 #[.string t.1, .int .i64 t.2.1, .int .i64 t.2.2] rfl rfl rfl rfl rfl ?_; clear HS; intro w1 HS; have f1_ := HS.out.c 0 0 (v := .string t.1) rfl rfl; have f2_ := HS.out.c 1 1 (v := .int .i64 (n : Int)) rfl rfl; have f3_ := HS.out.c 1 0 (v := .int .i64 (d : Int)) rfl rfl) | (go_at_call 90; refine (specWord d (by omega) _ hsz _).mono ?_; rintro e_ w1 ⟨rfl, hb⟩; replace HS := sB HS hb; clear hb f1_ f2_ f3_; have f1_ := HS.out.c 0 1 (v := .int .i64 t.2.1) rfl rfl; have f2_ := HS.out.c 0 2 (v := .int .i64 t.2.2) rfl rfl) | (go_at_call 107; refine (specIsFrac _ _ _).mono ?_; rintro e_ w1 ⟨rfl, hb⟩; replace HS := sB HS hb; clear hb f1_ f2_; have f1_ := HS.out.c 0 1 (v := .int .i64 t.2.1) rfl rfl; have f2_ := HS.out.c 0 2 (v := .int .i64 t.2.2) rfl rfl) | (go_at_call 108; refine (specZero _ _ _).mono ?_; rintro e_ w1 ⟨rfl, hb⟩; replace HS := sB HS hb; clear hb f1_ f2_))
                    have hw1 := HW.out
                    have hw2 := (i64_w _).symm.trans HW.out
                    replace HS := sD HS
                    refine ps (.p 0 (.p 1 (.p 2 (.p 3 (.p 5 (.p 6 (.p 10 (.t 4 (.p 7 (.p 8 (.t 9 (.t 11 (.d 12 (.p 13 (.p 14 .done))))))))))))))) (fun w' => w'.cell? ⟨g_x, 2, none⟩ = some (.slice (some ad_A) l.length c) ∧ w'.cell? (ad_A.add (q * 3)) = some (.string p.1) ∧ w'.cell? ⟨g_t, 0, none⟩ = some (.string t.1)) [12] ⟨HS.out.c 1 2 (v := .slice (some ad_A) l.length c) rfl rfl, HS.out.old H0p.out, HS.out.c 0 0 (v := .string t.1) rfl rfl⟩ (fun hHeld => ?_)
                    repeat (first | ((with_reducible refine gate_p ?_); refine rp rfl rfl ?_) | ((with_reducible refine gate_t ?_); refine rt rfl rfl hHeld ?_))
                    refine run_d rfl (fun K hK => ?_)
                    refine gc Try.func109 (specBefore _ _ _ hsp hsz) rfl rfl ?_
                    rintro e_ w1 ⟨rfl, hb⟩
                    refine ⟨_, rfl, ?_⟩
                    replace HS := sB HS hb
                    clear hb
                    refine gd hK ?_
                    clear hK K
                    repeat (first | ((with_reducible refine gate_p ?_); refine rp rfl rfl ?_) | ((with_reducible refine gate_t ?_); refine rt rfl rfl hHeld ?_))
                    refine run_done ?_
                    clear hHeld
                    clear hw1 hw2
                    go_wp2
                    go_ret
                    exact ⟨ret_bool (HNO.out (by rw [HQ.out, h5]; simp)).symm, HS.out.below⟩
                  | true =>
                    have f1_ := HS.out.c 0 2 (v := .slice (some ad_A) l.length c) rfl rfl
                    have f2_ := HS.out.old H0t.out
                    have f3_ := HS.out.old H1t.out
                    have f4_ := HS.out.old H2t.out
                    go_wp2_with (first | ((with_reducible refine gate_dst (N := 4) rfl ?_); refine bxL 38 #[(.string ⟨#[]⟩), (.int .i64 0), (.int .i64 0)] HS ?_; clear HS f1_ f2_ f3_ f4_; intro g_t w1 hg_t HS) | ((with_reducible refine gate_store (t := 38) (p := 4) rfl ?_); refine stL HS 0 0 #[.string t.1, .int .i64 t.2.1, .int .i64 t.2.2] rfl rfl rfl rfl rfl ?_; clear HS; intro w1 HS; have f1_ := HS.out.c 0 0 (v := .string t.1) rfl rfl; have f2_ := HS.out.c 1 1 (v := .int .i64 (n : Int)) rfl rfl; have f3_ := HS.out.c 1 0 (v := .int .i64 (d : Int)) rfl rfl) | (go_at_call 90; refine (specWord d (by omega) _ hsz _).mono ?_; rintro e_ w1 ⟨rfl, hb⟩; replace HS := sB HS hb; clear hb f1_ f2_ f3_; have f1_ := HS.out.c 0 1 (v := .int .i64 t.2.1) rfl rfl; have f2_ := HS.out.c 0 2 (v := .int .i64 t.2.2) rfl rfl) | (go_at_call 107; refine (specIsFrac _ _ _).mono ?_; rintro e_ w1 ⟨rfl, hb⟩; replace HS := sB HS hb; clear hb f1_ f2_; have f1_ := HS.out.c 0 1 (v := .int .i64 t.2.1) rfl rfl; have f2_ := HS.out.c 0 2 (v := .int .i64 t.2.2) rfl rfl) | (go_at_call 108; refine (specZero _ _ _).mono ?_; rintro e_ w1 ⟨rfl, hb⟩; replace HS := sB HS hb; clear hb f1_ f2_))
                    have hw1 := HW.out
                    have hw2 := (i64_w _).symm.trans HW.out
                    replace HS := sD HS
                    refine ps (.p 0 (.p 1 (.p 2 (.p 3 (.p 5 (.p 6 (.p 10 (.t 4 (.p 7 (.p 8 (.t 9 (.t 11 (.d 12 (.p 13 (.p 14 .done))))))))))))))) (fun w' => w'.cell? ⟨g_x, 2, none⟩ = some (.slice (some ad_A) l.length c) ∧ w'.cell? (ad_A.add (q * 3)) = some (.string p.1) ∧ w'.cell? ⟨g_t, 0, none⟩ = some (.string t.1)) [12] ⟨HS.out.c 1 2 (v := .slice (some ad_A) l.length c) rfl rfl, HS.out.old H0p.out, HS.out.c 0 0 (v := .string t.1) rfl rfl⟩ (fun hHeld => ?_)
                    repeat (first | ((with_reducible refine gate_p ?_); refine rp rfl rfl ?_) | ((with_reducible refine gate_t ?_); refine rt rfl rfl hHeld ?_))
                    refine run_d rfl (fun K hK => ?_)
                    refine gc Try.func109 (specBefore _ _ _ hsp hsz) rfl rfl ?_
                    rintro e_ w1 ⟨rfl, hb⟩
                    refine ⟨_, rfl, ?_⟩
                    replace HS := sB HS hb
                    clear hb
                    refine gd hK ?_
                    clear hK K
                    repeat (first | ((with_reducible refine gate_p ?_); refine rp rfl rfl ?_) | ((with_reducible refine gate_t ?_); refine rt rfl rfl hHeld ?_))
                    refine run_done ?_
                    clear hHeld
                    clear hw1 hw2
                    go_wp2
                    replace HS : Aside0 (Mod _ _ _ [_]) := sX HS [1]
                    go_roundw
                    case rel => exact ⟨q + 1 + 1, by omega, by go_num, ⟨round_next HY.out (by rw [HQ.out, h5]; simp)⟩, HS⟩
                    case measure => simp [intOf]; omega
      · have HE := Aside0.mk (isTs_ok.2 (fun j hj => HY.out j (by omega)))
        have f1_ := HS.out.c 0 2 (v := .slice A l.length c) rfl rfl
        go_wp2
        go_ret
        exact ⟨ret_bool HE.out.symm, HS.out.below⟩
end Go.Proofs.Ytibjkjhpfmmjoaa.H
namespace Go.Proofs.Ytibjkjhpfmmjoaa.H
open Go.RowKit Go.Proofs.YtibjkjhpfmmjoaaW.PrintWords Go.Proofs.YtibjkjhpfmmjoaaW.PrintLast Go.Proofs.YtibjkjhpfmmjoaaW.PrintMore Go.Proofs.Ytibjkjhpfmmjoaa.M
attribute [local go_sem] max2_int min2_int max_two min_two max_three min_three max_four min_four
set_option linter.unusedVariables false
set_option linter.unusedSimpArgs false
set_option maxRecDepth 100000 in
set_option maxHeartbeats 8000000 in
theorem implTerms (d n : Nat) (hd : 1 ≤ d ∧ d ≤ 3) (hn : n ≤ 5) (A : Option Addr) (c : Nat) (l : Ts) (w : World) (hr : KT.C w A l.length l) (hb : bnd l = true) :
    Calls Try.prog 102 #[.int .i64 (d : Int), .int .i64 (n : Int), .slice A l.length c] w fun e w' => e = .returned (.bool (isTs d n l)) ∧ Below w.heap.size w w' := by
  have HR := Aside0.mk hr
  have HN := Aside0.mk hb
  have hll := (bnd_iff.1 hb).1
  have HS := Aside0.mk (Sep.refl w)
  clear hr hb
  go_enter Try.func102, Try.ntmps102
  go_wp2
  go_loopw [11] (fun v w' => ∃ k : Nat, k ≤ l.length ∧ v = .int .i64 (k : Int) ∧ Aside0 (∀ j, j < k → okAt d n l j = true) ∧ Aside0 (Mod w w' No [])) (fun v _ => l.length - (intOf v).toNat)
  case atStart => exact ⟨0, by omega, rfl, ⟨fun j hj => by omega⟩, HS⟩
  case round =>
    clear HS
    obtain ⟨k, hk, rfl, HY, HS⟩ := hrel
    by_cases hlt : k < l.length
    · have hs1 := bnd_get HN.out k
      obtain ⟨ad_A, ea_, h0_, h1_, h2_⟩ := tm_at HR.out k (hlt)
      cases ea_
      obtain ⟨t, ht_⟩ : ∃ t_, t_ = l.getD k zT := ⟨_, rfl⟩
      rw [← ht_] at h0_ h1_ h2_
      have Et := Aside0.mk ht_; have H0t := Aside0.mk h0_; have H1t := Aside0.mk h1_; have H2t := Aside0.mk h2_
      clear ht_ h0_ h1_ h2_
      have HK := Aside0.mk (okAt_eq d n l k Et.out)
      have HNO := Aside0.mk (@isTs_no d n l k hlt)
      rw [← Et.out] at hs1
      have hsz : t.1.size ≤ 9223372036854775807 := by omega
      have hd9 : d ≤ 9 := by omega
      cases h1 : (isWd d t.1 && decide (t.1.size ≤ n)) with
      | false =>
        have f1_ := HS.out.old H0t.out
        have f2_ := HS.out.old H1t.out
        have f3_ := HS.out.old H2t.out
        go_wp2_with (first | ((with_reducible refine gate_dst (N := 8) rfl ?_); refine bxL 38 #[(.string ⟨#[]⟩), (.int .i64 0), (.int .i64 0)] HS ?_; clear HS f1_ f2_ f3_; intro g_t w1 hg_t HS) | ((with_reducible refine gate_store (t := 38) (p := 8) rfl ?_); refine stL HS 0 0 #[.string t.1, .int .i64 t.2.1, .int .i64 t.2.2] rfl rfl rfl rfl rfl ?_; clear HS; intro w1 HS))
        replace HS := sD HS
        refine ps (.p 0 (.p 1 (.p 3 (.t 2 (.d 4 (.p 5 (.p 6 (.p 7 (.p 8 (.p 9 (.p 10 (.p 11 (.p 12 (.p 13 (.p 14 (.p 15 (.p 16 (.p 17 (.p 18 (.p 19 (.p 20 (.p 21 (.p 22 (.p 23 (.p 24 (.p 25 (.p 26 (.p 27 (.p 28 (.p 29 (.p 30 (.p 31 (.p 32 (.p 33 .done)))))))))))))))))))))))))))))))))) (fun w' => w'.cell? ⟨g_t, 0, none⟩ = some (.string t.1)) [4] (HS.out.c 0 0 (v := .string t.1) rfl rfl) (fun hHeld => ?_)
        repeat (first | ((with_reducible refine gate_p ?_); refine rp rfl rfl ?_) | ((with_reducible refine gate_p ?_); refine rp0 rfl rfl ?_) | ((with_reducible refine gate_t ?_); refine rt rfl rfl hHeld ?_))
        refine run_d rfl (fun K hK => ?_)
        refine gc Try.func63 (implWord d n hd9 _ hsz _) rfl rfl ?_
        rintro e_ w1 ⟨rfl, hb⟩
        refine ⟨_, rfl, ?_⟩
        replace HS := sB HS hb
        clear hb
        refine gd hK ?_
        clear hK K
        repeat (first | ((with_reducible refine gate_p ?_); refine rp rfl rfl ?_) | ((with_reducible refine gate_p ?_); refine rp0 rfl rfl ?_) | ((with_reducible refine gate_t ?_); refine rt rfl rfl hHeld ?_))
        refine run_done ?_
        clear hHeld
        go_wp2
        go_ret
        exact ⟨ret_bool (HNO.out (by rw [HK.out, ← Bool.and_assoc, h1]; simp)).symm, HS.out.below⟩
      | true =>
        cases h3 : isFr t.2.1 t.2.2 with
        | false =>
          have f1_ := HS.out.old H0t.out
          have f2_ := HS.out.old H1t.out
          have f3_ := HS.out.old H2t.out
          go_wp2_with (first | ((with_reducible refine gate_dst (N := 8) rfl ?_); refine bxL 38 #[(.string ⟨#[]⟩), (.int .i64 0), (.int .i64 0)] HS ?_; clear HS f1_ f2_ f3_; intro g_t w1 hg_t HS) | ((with_reducible refine gate_store (t := 38) (p := 8) rfl ?_); refine stL HS 0 0 #[.string t.1, .int .i64 t.2.1, .int .i64 t.2.2] rfl rfl rfl rfl rfl ?_; clear HS; intro w1 HS))
          replace HS := sD HS
          refine ps (.p 0 (.p 1 (.p 3 (.t 2 (.e 4 (.p 5 (.p 6 (.p 7 (.t 8 (.d 9 (.p 10 (.p 11 (.p 12 (.p 13 (.p 14 (.p 15 (.p 16 (.p 17 (.p 18 (.p 19 (.p 20 (.p 21 (.p 22 (.p 23 (.p 24 (.p 25 (.p 26 (.p 27 (.p 28 (.p 29 (.p 30 (.p 31 (.p 32 (.p 33 .done)))))))))))))))))))))))))))))))))) (fun w' => w'.cell? ⟨g_t, 0, none⟩ = some (.string t.1) ∧ w'.cell? ⟨g_t, 1, none⟩ = some (.int .i64 t.2.1) ∧ w'.cell? ⟨g_t, 2, none⟩ = some (.int .i64 t.2.2)) [9] ⟨HS.out.c 0 0 (v := .string t.1) rfl rfl, HS.out.c 0 1 (v := .int .i64 t.2.1) rfl rfl, HS.out.c 0 2 (v := .int .i64 t.2.2) rfl rfl⟩ (fun hHeld => ?_)
          repeat (first | ((with_reducible refine gate_p ?_); refine rp rfl rfl ?_) | ((with_reducible refine gate_p ?_); refine rp0 rfl rfl ?_) | ((with_reducible refine gate_t ?_); refine rt rfl rfl hHeld ?_))
          refine run_e rfl (fun K hK => ?_)
          refine gc Try.func63 (implWord d n hd9 _ hsz _) rfl rfl ?_
          rintro e_ w1 ⟨rfl, hb⟩
          refine ⟨_, rfl, ?_⟩
          replace HS := sB HS hb
          clear hb
          refine ge hK ⟨HS.out.c 0 0 (v := .string t.1) rfl rfl, HS.out.c 0 1 (v := .int .i64 t.2.1) rfl rfl, HS.out.c 0 2 (v := .int .i64 t.2.2) rfl rfl⟩ (fun hHeld => ?_)
          clear hK K
          repeat (first | ((with_reducible refine gate_p ?_); refine rp rfl rfl ?_) | ((with_reducible refine gate_p ?_); refine rp0 rfl rfl ?_) | ((with_reducible refine gate_t ?_); refine rt rfl rfl hHeld ?_))
          refine run_d rfl (fun K hK => ?_)
          refine gc Try.func96 (implIsFraction _ _ _) rfl rfl ?_
          rintro e_ w1 ⟨rfl, hb⟩
          refine ⟨_, rfl, ?_⟩
          replace HS := sB HS hb
          clear hb
          refine gd hK ?_
          clear hK K
          repeat (first | ((with_reducible refine gate_p ?_); refine rp rfl rfl ?_) | ((with_reducible refine gate_p ?_); refine rp0 rfl rfl ?_) | ((with_reducible refine gate_t ?_); refine rt rfl rfl hHeld ?_))
          refine run_done ?_
          clear hHeld
          go_wp2
          go_ret
          exact ⟨ret_bool (HNO.out (by rw [HK.out, h3]; simp)).symm, HS.out.below⟩
        | true =>
          cases h4 : (t.2.1 == 0) with
          | true =>
            have f1_ := HS.out.old H0t.out
            have f2_ := HS.out.old H1t.out
            have f3_ := HS.out.old H2t.out
            go_wp2_with (first | ((with_reducible refine gate_dst (N := 8) rfl ?_); refine bxL 38 #[(.string ⟨#[]⟩), (.int .i64 0), (.int .i64 0)] HS ?_; clear HS f1_ f2_ f3_; intro g_t w1 hg_t HS) | ((with_reducible refine gate_store (t := 38) (p := 8) rfl ?_); refine stL HS 0 0 #[.string t.1, .int .i64 t.2.1, .int .i64 t.2.2] rfl rfl rfl rfl rfl ?_; clear HS; intro w1 HS))
            replace HS := sD HS
            refine ps (.p 0 (.p 1 (.p 3 (.t 2 (.e 4 (.p 5 (.p 6 (.p 7 (.t 8 (.e 9 (.p 10 (.p 11 (.p 12 (.p 13 (.p 14 (.t 15 (.p 16 (.p 17 (.p 18 (.p 19 (.p 20 (.p 21 (.p 22 (.p 23 (.p 24 (.p 25 (.p 26 (.p 27 (.p 28 (.p 29 (.p 30 (.p 31 (.p 32 (.p 33 .done)))))))))))))))))))))))))))))))))) (fun w' => w'.cell? ⟨g_t, 0, none⟩ = some (.string t.1) ∧ w'.cell? ⟨g_t, 1, none⟩ = some (.int .i64 t.2.1) ∧ w'.cell? ⟨g_t, 2, none⟩ = some (.int .i64 t.2.2)) [] ⟨HS.out.c 0 0 (v := .string t.1) rfl rfl, HS.out.c 0 1 (v := .int .i64 t.2.1) rfl rfl, HS.out.c 0 2 (v := .int .i64 t.2.2) rfl rfl⟩ (fun hHeld => ?_)
            repeat (first | ((with_reducible refine gate_p ?_); refine rp rfl rfl ?_) | ((with_reducible refine gate_p ?_); refine rp0 rfl rfl ?_) | ((with_reducible refine gate_t ?_); refine rt rfl rfl hHeld ?_))
            refine run_e rfl (fun K hK => ?_)
            refine gc Try.func63 (implWord d n hd9 _ hsz _) rfl rfl ?_
            rintro e_ w1 ⟨rfl, hb⟩
            refine ⟨_, rfl, ?_⟩
            replace HS := sB HS hb
            clear hb
            refine ge hK ⟨HS.out.c 0 0 (v := .string t.1) rfl rfl, HS.out.c 0 1 (v := .int .i64 t.2.1) rfl rfl, HS.out.c 0 2 (v := .int .i64 t.2.2) rfl rfl⟩ (fun hHeld => ?_)
            clear hK K
            repeat (first | ((with_reducible refine gate_p ?_); refine rp rfl rfl ?_) | ((with_reducible refine gate_p ?_); refine rp0 rfl rfl ?_) | ((with_reducible refine gate_t ?_); refine rt rfl rfl hHeld ?_))
            refine run_e rfl (fun K hK => ?_)
            refine gc Try.func96 (implIsFraction _ _ _) rfl rfl ?_
            rintro e_ w1 ⟨rfl, hb⟩
            refine ⟨_, rfl, ?_⟩
            replace HS := sB HS hb
            clear hb
            refine ge hK ⟨HS.out.c 0 0 (v := .string t.1) rfl rfl, HS.out.c 0 1 (v := .int .i64 t.2.1) rfl rfl, HS.out.c 0 2 (v := .int .i64 t.2.2) rfl rfl⟩ (fun hHeld => ?_)
            clear hK K
            repeat (first | ((with_reducible refine gate_p ?_); refine rp rfl rfl ?_) | ((with_reducible refine gate_p ?_); refine rp0 rfl rfl ?_) | ((with_reducible refine gate_t ?_); refine rt rfl rfl hHeld ?_))
            refine run_done ?_
            clear hHeld
            go_wp2
            go_ret
            exact ⟨ret_bool (HNO.out (by rw [HK.out, decide_eq_false (p := t.2.1 ≠ 0) (by simpa using h4)]; simp)).symm, HS.out.below⟩
          | false =>
            have HQ := Aside0.mk (show okAt d n l k = (decide (k = 0) || bef (l.getD (k - 1) zT).1 t.1) by rw [HK.out, ← Bool.and_assoc, h1, h3, decide_eq_true (p := t.2.1 ≠ 0) (by simpa using h4)]; rfl)
            by_cases hk0 : k = 0
            · have c0 : decide (0 < (k : Int)) = false := by rw [hk0]; rfl
              have c1 : decide (0 < k) = false := by rw [hk0]; rfl
              have HK0 := Aside0.mk hk0
              clear hk0
              have f1_ := HS.out.old H0t.out
              have f2_ := HS.out.old H1t.out
              have f3_ := HS.out.old H2t.out
              go_wp2_with (first | ((with_reducible refine gate_dst (N := 8) rfl ?_); refine bxL 38 #[(.string ⟨#[]⟩), (.int .i64 0), (.int .i64 0)] HS ?_; clear HS f1_ f2_ f3_; intro g_t w1 hg_t HS) | ((with_reducible refine gate_store (t := 38) (p := 8) rfl ?_); refine stL HS 0 0 #[.string t.1, .int .i64 t.2.1, .int .i64 t.2.2] rfl rfl rfl rfl rfl ?_; clear HS; intro w1 HS))
              replace HS := sD HS
              refine ps (.p 0 (.p 1 (.p 3 (.t 2 (.e 4 (.p 5 (.p 6 (.p 7 (.t 8 (.e 9 (.p 10 (.p 11 (.p 12 (.p 13 (.p 14 (.t 15 (.p 16 (.p 17 (.p 18 (.p 19 (.p 20 (.p 21 (.p 22 (.p 23 (.p 24 (.p 25 (.p 26 (.p 27 (.p 28 (.p 29 (.p 30 (.p 31 (.p 32 (.p 33 .done)))))))))))))))))))))))))))))))))) (fun w' => w'.cell? ⟨g_t, 0, none⟩ = some (.string t.1) ∧ w'.cell? ⟨g_t, 1, none⟩ = some (.int .i64 t.2.1) ∧ w'.cell? ⟨g_t, 2, none⟩ = some (.int .i64 t.2.2)) [] ⟨HS.out.c 0 0 (v := .string t.1) rfl rfl, HS.out.c 0 1 (v := .int .i64 t.2.1) rfl rfl, HS.out.c 0 2 (v := .int .i64 t.2.2) rfl rfl⟩ (fun hHeld => ?_)
              repeat (first | ((with_reducible refine gate_p ?_); refine rp rfl rfl ?_) | ((with_reducible refine gate_p ?_); refine rp0 rfl rfl ?_) | ((with_reducible refine gate_t ?_); refine rt rfl rfl hHeld ?_))
              refine run_e rfl (fun K hK => ?_)
              refine gc Try.func63 (implWord d n hd9 _ hsz _) rfl rfl ?_
              rintro e_ w1 ⟨rfl, hb⟩
              refine ⟨_, rfl, ?_⟩
              replace HS := sB HS hb
              clear hb
              refine ge hK ⟨HS.out.c 0 0 (v := .string t.1) rfl rfl, HS.out.c 0 1 (v := .int .i64 t.2.1) rfl rfl, HS.out.c 0 2 (v := .int .i64 t.2.2) rfl rfl⟩ (fun hHeld => ?_)
              clear hK K
              repeat (first | ((with_reducible refine gate_p ?_); refine rp rfl rfl ?_) | ((with_reducible refine gate_p ?_); refine rp0 rfl rfl ?_) | ((with_reducible refine gate_t ?_); refine rt rfl rfl hHeld ?_))
              refine run_e rfl (fun K hK => ?_)
              refine gc Try.func96 (implIsFraction _ _ _) rfl rfl ?_
              rintro e_ w1 ⟨rfl, hb⟩
              refine ⟨_, rfl, ?_⟩
              replace HS := sB HS hb
              clear hb
              refine ge hK ⟨HS.out.c 0 0 (v := .string t.1) rfl rfl, HS.out.c 0 1 (v := .int .i64 t.2.1) rfl rfl, HS.out.c 0 2 (v := .int .i64 t.2.2) rfl rfl⟩ (fun hHeld => ?_)
              clear hK K
              repeat (first | ((with_reducible refine gate_p ?_); refine rp rfl rfl ?_) | ((with_reducible refine gate_p ?_); refine rp0 rfl rfl ?_) | ((with_reducible refine gate_t ?_); refine rt rfl rfl hHeld ?_))
              refine run_done ?_
              clear hHeld
              go_wp2
              replace HS : Aside0 (Mod _ _ _ []) := sX HS []
              go_roundw
              case rel => exact ⟨k + 1, by omega, by go_num, ⟨round_next HY.out (by rw [HQ.out, decide_eq_true HK0.out]; rfl)⟩, HS⟩
              case measure => simp [intOf]; omega
            · obtain ⟨q, rfl⟩ : ∃ q, k = q + 1 := ⟨k - 1, by omega⟩
              clear hk0
              have c0 : decide (0 < ((q + 1 : Nat) : Int)) = true := decide_eq_true (by omega)
              have c1 : decide (0 < q + 1) = true := decide_eq_true (by omega)
              have hs2 := bnd_get HN.out q
              obtain ⟨adn_, ea_, h0_, h1_, h2_⟩ := tm_at HR.out q ((by omega))
              cases ea_
              obtain ⟨p, ht_⟩ : ∃ t_, t_ = l.getD q zT := ⟨_, rfl⟩
              rw [← ht_] at h0_ h1_ h2_
              have Ep := Aside0.mk ht_; have H0p := Aside0.mk h0_; have H1p := Aside0.mk h1_; have H2p := Aside0.mk h2_
              clear ht_ h0_ h1_ h2_
              rw [← Ep.out] at hs2
              rw [show q + 1 - 1 = q by omega, ← Ep.out] at HQ
              have hq0 : (0 : Int) ≤ q := by omega
              have hq1 : (q : Int) < l.length := by omega
              have HW := Aside0.mk (show IntKind.i64.wrap (q : Int) = (q : Int) from IntWalk.i64_in _ (by omega))
              cases h5 : bef p.1 t.1 with
              | false =>
                have f1_ := HS.out.old H0t.out
                have f2_ := HS.out.old H1t.out
                have f3_ := HS.out.old H2t.out
                go_wp2_with (first | ((with_reducible refine gate_dst (N := 8) rfl ?_); refine bxL 38 #[(.string ⟨#[]⟩), (.int .i64 0), (.int .i64 0)] HS ?_; clear HS f1_ f2_ f3_; intro g_t w1 hg_t HS) | ((with_reducible refine gate_store (t := 38) (p := 8) rfl ?_); refine stL HS 0 0 #[.string t.1, .int .i64 t.2.1, .int .i64 t.2.2] rfl rfl rfl rfl rfl ?_; clear HS; intro w1 HS))
                have hw1 := HW.out
                have hw2 := (i64_w _).symm.trans HW.out
                replace HS := sD HS
                refine ps (.p 0 (.p 1 (.p 3 (.t 2 (.e 4 (.p 5 (.p 6 (.p 7 (.t 8 (.e 9 (.p 10 (.p 11 (.p 12 (.p 13 (.p 14 (.t 15 (.p 16 (.p 17 (.p 18 (.p 19 (.p 20 (.p 21 (.p 22 (.p 23 (.p 24 (.p 25 (.p 26 (.p 28 (.t 27 (.t 29 (.d 30 (.p 31 (.p 32 (.p 33 .done)))))))))))))))))))))))))))))))))) (fun w' => w'.cell? ⟨g_t, 0, none⟩ = some (.string t.1) ∧ w'.cell? ⟨g_t, 1, none⟩ = some (.int .i64 t.2.1) ∧ w'.cell? ⟨g_t, 2, none⟩ = some (.int .i64 t.2.2) ∧ w'.cell? (ad_A.add (q * 3)) = some (.string p.1)) [30] ⟨HS.out.c 0 0 (v := .string t.1) rfl rfl, HS.out.c 0 1 (v := .int .i64 t.2.1) rfl rfl, HS.out.c 0 2 (v := .int .i64 t.2.2) rfl rfl, HS.out.old H0p.out⟩ (fun hHeld => ?_)
                repeat (first | ((with_reducible refine gate_p ?_); refine rp rfl rfl ?_) | ((with_reducible refine gate_t ?_); refine rt rfl rfl hHeld ?_))
                refine run_e rfl (fun K hK => ?_)
                refine gc Try.func63 (implWord d n hd9 _ hsz _) rfl rfl ?_
                rintro e_ w1 ⟨rfl, hb⟩
                refine ⟨_, rfl, ?_⟩
                replace HS := sB HS hb
                clear hb
                refine ge hK ⟨HS.out.c 0 0 (v := .string t.1) rfl rfl, HS.out.c 0 1 (v := .int .i64 t.2.1) rfl rfl, HS.out.c 0 2 (v := .int .i64 t.2.2) rfl rfl, HS.out.old H0p.out⟩ (fun hHeld => ?_)
                clear hK K
                repeat (first | ((with_reducible refine gate_p ?_); refine rp rfl rfl ?_) | ((with_reducible refine gate_t ?_); refine rt rfl rfl hHeld ?_))
                refine run_e rfl (fun K hK => ?_)
                refine gc Try.func96 (implIsFraction _ _ _) rfl rfl ?_
                rintro e_ w1 ⟨rfl, hb⟩
                refine ⟨_, rfl, ?_⟩
                replace HS := sB HS hb
                clear hb
                refine ge hK ⟨HS.out.c 0 0 (v := .string t.1) rfl rfl, HS.out.c 0 1 (v := .int .i64 t.2.1) rfl rfl, HS.out.c 0 2 (v := .int .i64 t.2.2) rfl rfl, HS.out.old H0p.out⟩ (fun hHeld => ?_)
                clear hK K
                repeat (first | ((with_reducible refine gate_p ?_); refine rp rfl rfl ?_) | ((with_reducible refine gate_t ?_); refine rt rfl rfl hHeld ?_))
                refine run_d rfl (fun K hK => ?_)
                refine gc Try.func136 (implCompare _ _ hs2 hs1 _) rfl rfl ?_
                rintro e_ w1 ⟨⟨c9, rfl, hc9⟩, hb⟩
                refine ⟨_, rfl, ?_⟩
                replace HS := sB HS hb
                clear hb
                rw [h5] at hc9
                simp only [Bool.not_true, Bool.not_false] at hc9
                refine gd hK ?_
                clear hK K
                repeat (first | ((with_reducible refine gate_p ?_); refine rp rfl rfl ?_) | ((with_reducible refine gate_t ?_); refine rt rfl rfl hHeld ?_))
                refine run_done ?_
                clear hHeld
                clear hw1 hw2
                go_wp2
                go_ret
                exact ⟨ret_bool (HNO.out (by rw [HQ.out, h5]; simp)).symm, HS.out.below⟩
              | true =>
                have f1_ := HS.out.old H0t.out
                have f2_ := HS.out.old H1t.out
                have f3_ := HS.out.old H2t.out
                go_wp2_with (first | ((with_reducible refine gate_dst (N := 8) rfl ?_); refine bxL 38 #[(.string ⟨#[]⟩), (.int .i64 0), (.int .i64 0)] HS ?_; clear HS f1_ f2_ f3_; intro g_t w1 hg_t HS) | ((with_reducible refine gate_store (t := 38) (p := 8) rfl ?_); refine stL HS 0 0 #[.string t.1, .int .i64 t.2.1, .int .i64 t.2.2] rfl rfl rfl rfl rfl ?_; clear HS; intro w1 HS))
                have hw1 := HW.out
                have hw2 := (i64_w _).symm.trans HW.out
                replace HS := sD HS
                refine ps (.p 0 (.p 1 (.p 3 (.t 2 (.e 4 (.p 5 (.p 6 (.p 7 (.t 8 (.e 9 (.p 10 (.p 11 (.p 12 (.p 13 (.p 14 (.t 15 (.p 16 (.p 17 (.p 18 (.p 19 (.p 20 (.p 21 (.p 22 (.p 23 (.p 24 (.p 25 (.p 26 (.p 28 (.t 27 (.t 29 (.d 30 (.p 31 (.p 32 (.p 33 .done)))))))))))))))))))))))))))))))))) (fun w' => w'.cell? ⟨g_t, 0, none⟩ = some (.string t.1) ∧ w'.cell? ⟨g_t, 1, none⟩ = some (.int .i64 t.2.1) ∧ w'.cell? ⟨g_t, 2, none⟩ = some (.int .i64 t.2.2) ∧ w'.cell? (ad_A.add (q * 3)) = some (.string p.1)) [30] ⟨HS.out.c 0 0 (v := .string t.1) rfl rfl, HS.out.c 0 1 (v := .int .i64 t.2.1) rfl rfl, HS.out.c 0 2 (v := .int .i64 t.2.2) rfl rfl, HS.out.old H0p.out⟩ (fun hHeld => ?_)
                repeat (first | ((with_reducible refine gate_p ?_); refine rp rfl rfl ?_) | ((with_reducible refine gate_t ?_); refine rt rfl rfl hHeld ?_))
                refine run_e rfl (fun K hK => ?_)
                refine gc Try.func63 (implWord d n hd9 _ hsz _) rfl rfl ?_
                rintro e_ w1 ⟨rfl, hb⟩
                refine ⟨_, rfl, ?_⟩
                replace HS := sB HS hb
                clear hb
                refine ge hK ⟨HS.out.c 0 0 (v := .string t.1) rfl rfl, HS.out.c 0 1 (v := .int .i64 t.2.1) rfl rfl, HS.out.c 0 2 (v := .int .i64 t.2.2) rfl rfl, HS.out.old H0p.out⟩ (fun hHeld => ?_)
                clear hK K
                repeat (first | ((with_reducible refine gate_p ?_); refine rp rfl rfl ?_) | ((with_reducible refine gate_t ?_); refine rt rfl rfl hHeld ?_))
                refine run_e rfl (fun K hK => ?_)
                refine gc Try.func96 (implIsFraction _ _ _) rfl rfl ?_
                rintro e_ w1 ⟨rfl, hb⟩
                refine ⟨_, rfl, ?_⟩
                replace HS := sB HS hb
                clear hb
                refine ge hK ⟨HS.out.c 0 0 (v := .string t.1) rfl rfl, HS.out.c 0 1 (v := .int .i64 t.2.1) rfl rfl, HS.out.c 0 2 (v := .int .i64 t.2.2) rfl rfl, HS.out.old H0p.out⟩ (fun hHeld => ?_)
                clear hK K
                repeat (first | ((with_reducible refine gate_p ?_); refine rp rfl rfl ?_) | ((with_reducible refine gate_t ?_); refine rt rfl rfl hHeld ?_))
                refine run_d rfl (fun K hK => ?_)
                refine gc Try.func136 (implCompare _ _ hs2 hs1 _) rfl rfl ?_
                rintro e_ w1 ⟨⟨c9, rfl, hc9⟩, hb⟩
                refine ⟨_, rfl, ?_⟩
                replace HS := sB HS hb
                clear hb
                rw [h5] at hc9
                simp only [Bool.not_true, Bool.not_false] at hc9
                refine gd hK ?_
                clear hK K
                repeat (first | ((with_reducible refine gate_p ?_); refine rp rfl rfl ?_) | ((with_reducible refine gate_t ?_); refine rt rfl rfl hHeld ?_))
                refine run_done ?_
                clear hHeld
                clear hw1 hw2
                go_wp2
                replace HS : Aside0 (Mod _ _ _ []) := sX HS []
                go_roundw
                case rel => exact ⟨q + 1 + 1, by omega, by go_num, ⟨round_next HY.out (by rw [HQ.out, h5]; simp)⟩, HS⟩
                case measure => simp [intOf]; omega
    · have HE := Aside0.mk (isTs_ok.2 (fun j hj => HY.out j (by omega)))
      go_wp2
      go_ret
      exact ⟨ret_bool HE.out.symm, HS.out.below⟩
set_option maxRecDepth 100000 in
set_option maxHeartbeats 4000000 in
theorem implIs (d n : Int) (A : Option Addr) (c : Nat) (l : Ts) (w : World) (hr : KT.C w A l.length l) (hc : l.length ≤ c) (hb : bnd l = true) :
    Calls Try.prog 52 #[.agg #[.int .i64 d, .int .i64 n, .slice A l.length c]] w fun e w' => e = .returned (.bool (isS d n l)) ∧ Below w.heap.size w w' := by
  have HR := Aside0.mk hr
  have HN := Aside0.mk hb
  have HS := Aside0.mk (Sep.refl w)
  clear hr hb
  cases hlev : lev d n with
  | false =>
    rw [isS_no hlev]
    go_enter Try.func52, Try.ntmps52
    go_wp2_with (first | ((with_reducible refine gate_dst (N := 1) rfl ?_); refine bxL 26 #[.int .i64 d, .int .i64 n, .slice A l.length c] HS ?_; clear HS; intro g_x w1 hg_x HS; have f1_ := HS.out.c 0 0 (v := .int .i64 d) rfl rfl; have f2_ := HS.out.c 0 1 (v := .int .i64 n) rfl rfl) | (go_at_call 78; refine (implLevel _ _ _).mono ?_; rintro e_ w1 ⟨rfl, hb⟩; replace HS := sB HS hb; clear hb f1_ f2_))
    go_ret
    exact ⟨rfl, HS.out.below⟩
  | true =>
    obtain ⟨d, n, rfl, rfl, hd1, hd3, hn1, hn5⟩ := lev_nat hlev
    rw [isS_lev hlev]
    go_enter Try.func52, Try.ntmps52
    go_wp2_with (first | ((with_reducible refine gate_dst (N := 1) rfl ?_); refine bxL 26 #[.int .i64 (d : Int), .int .i64 (n : Int), .slice A l.length c] HS ?_; clear HS; intro g_x w1 hg_x HS; have f1_ := HS.out.c 0 0 (v := .int .i64 (d : Int)) rfl rfl; have f2_ := HS.out.c 0 1 (v := .int .i64 (n : Int)) rfl rfl) | (go_at_call 78; refine (implLevel _ _ _).mono ?_; rintro e_ w1 ⟨rfl, hb⟩; replace HS := sB HS hb; clear hb f1_ f2_; have f1_ := HS.out.c 0 0 (v := .int .i64 (d : Int)) rfl rfl; have f2_ := HS.out.c 0 1 (v := .int .i64 (n : Int)) rfl rfl; have f3_ := HS.out.c 0 2 (v := .slice A l.length c) rfl rfl) | (go_at_call 102; refine (implTerms d n ⟨hd1, hd3⟩ hn5 A c l _ (HS.out.oldC HR.out) HN.out).mono ?_; rintro e_ w1 ⟨rfl, hb⟩; replace HS := sB HS hb; clear hb f1_ f2_ f3_))
    go_ret
    exact ⟨rfl, HS.out.below⟩
end Go.Proofs.Ytibjkjhpfmmjoaa.H


namespace Go.Proofs.Ytibjkjhpfmmjoaa.H
open Go.RowKit Go.Proofs.YtibjkjhpfmmjoaaW.PrintWords Go.Proofs.YtibjkjhpfmmjoaaW.PrintLast Go.Proofs.YtibjkjhpfmmjoaaW.PrintMore Go.Proofs.Ytibjkjhpfmmjoaa.M
attribute [local go_sem] max2_int min2_int max_two min_two max_three min_three max_four min_four
set_option linter.unusedVariables false
set_option linter.unusedSimpArgs false
set_option maxRecDepth 100000
def RetQ (w : World) (r : Int × Int × Ts × Bool) (e : Ending) (w' : World) : Prop := ∃ B b, e = .returned (.tuple #[.agg #[.int .i64 r.1, .int .i64 r.2.1, .slice B r.2.2.1.length b], .bool r.2.2.2]) ∧ Sep w w' [rowT B b r.2.2.1]
theorem specEmpty (d n : Int) (A : Option Addr) (m c : Nat) (w : World) : Calls Try.prog 62 #[.agg #[.int .i64 d, .int .i64 n, .slice A m c]] w fun e w' => ∃ B b, e = .returned (.agg #[.int .i64 d, .int .i64 n, .slice B 0 b]) ∧ Sep w w' [rowT B b []] := by
  have HS := Aside0.mk (Sep.refl w)
  go_enter Try.func62, Try.ntmps62
  go_wp2_with (first | ((with_reducible refine gate_dst (N := 1) rfl ?_); refine bxL 26 #[.int .i64 d, .int .i64 n, .slice A m c] HS ?_; clear HS; intro g_x w1 hg_x HS) | ((with_reducible refine gate_dst (N := 2) rfl ?_); refine bxL 26 #[(.int .i64 0), (.int .i64 0), (.slice none 0 0)] HS ?_; clear HS; intro g_r w1 hg_r HS; have f1_ := HS.out.c 1 0 (v := .int .i64 d) rfl rfl; have f2_ := HS.out.c 1 1 (v := .int .i64 n) rfl rfl) | ((with_reducible refine gate_dst (N := 7) rfl ?_); refine wpList_stp (fun K hK => ?_); refine stp_lit (KT) rfl 38 (by rfl) HS (xs := ([] : Ts)) (inner := []) (by first | (go_simp; done) | (go_simp; rfl)) (fun W base ok => Reps.none _ _) (by simp) ?_; clear HS f1_ f2_; intro A_z c_z w1 HS; refine hK _ _ ?_; clear hK K) | ((with_reducible refine gate_store (t := 26) (p := 2) rfl ?_); refine stL HS 1 0 #[(.int .i64 d), (.int .i64 n), (.slice A_z (([] : Ts)).length c_z)] rfl rfl rfl rfl rfl ?_; clear HS; intro w1 HS))
  refine bodyPost_ret (results_cell_row rfl _ _ g_r 26 #[(.int .i64 d), (.int .i64 n), (.slice A_z (([] : Ts)).length c_z)] (0, 0) _ rfl (HS.out.at (i := 1) rfl) Try.underlying26 rfl (by kernel_rfl)) rfl ?_
  replace HS : Aside0 (Mod _ _ _ [_]) := sX HS [0]
  exact ⟨A_z, c_z, rfl, HS.out⟩
theorem nilS {w W : World} (h : Sep w W []) : Sep w W [rowT none 0 []] := by
  have := (h.nil (d := KT) (hE := rfl) (e := 38))
  exact this
end Go.Proofs.Ytibjkjhpfmmjoaa.H



namespace Go.Proofs.Ytibjkjhpfmmjoaa.M
def codeR (d n : Int) (l : Ts) (d2 n2 : Int) (l2 : Ts) : Int := if isS d n l = true then if isS d2 n2 l2 = true then if d = d2 ∧ n = n2 then 0 else 2 else 1 else 1
theorem codeR_1 {d n : Int} {l : Ts} {d2 n2 : Int} {l2 : Ts} (h : isS d n l = false) : codeR d n l d2 n2 l2 = 1 := by unfold codeR; rw [if_neg (by rw [h]; decide)]
theorem codeR_2 {d n : Int} {l : Ts} {d2 n2 : Int} {l2 : Ts} (h : isS d n l = true) (h2 : isS d2 n2 l2 = false) : codeR d n l d2 n2 l2 = 1 := by unfold codeR; rw [if_pos h, if_neg (by rw [h2]; decide)]
theorem codeR_3 {d n : Int} {l : Ts} {d2 n2 : Int} {l2 : Ts} (h : isS d n l = true) (h2 : isS d2 n2 l2 = true) (h3 : decide (d = d2 ∧ n = n2) = false) : codeR d n l d2 n2 l2 = 2 := by unfold codeR; rw [if_pos h, if_pos h2, if_neg (of_decide_eq_false h3)]
theorem codeR_4 {d n : Int} {l : Ts} {d2 n2 : Int} {l2 : Ts} (h : isS d n l = true) (h2 : isS d2 n2 l2 = true) (h3 : decide (d = d2 ∧ n = n2) = true) : codeR d n l d2 n2 l2 = 0 := by unfold codeR; rw [if_pos h, if_pos h2, if_pos (of_decide_eq_true h3)]
theorem codeR_zero {d n : Int} {l : Ts} {d2 n2 : Int} {l2 : Ts} (h : codeR d n l d2 n2 l2 = 0) : isS d n l = true ∧ isS d2 n2 l2 = true ∧ d = d2 ∧ n = n2 := by
  unfold codeR at h
  split at h
  · rename_i h1
    split at h
    · rename_i h2
      split at h
      · rename_i h3; exact ⟨h1, h2, h3.1, h3.2⟩
      · cases h
    · cases h
  · cases h
end Go.Proofs.Ytibjkjhpfmmjoaa.M
namespace Go.Proofs.Ytibjkjhpfmmjoaa.H
open Go.RowKit Go.Proofs.YtibjkjhpfmmjoaaW.PrintWords Go.Proofs.YtibjkjhpfmmjoaaW.PrintLast Go.Proofs.YtibjkjhpfmmjoaaW.PrintMore Go.Proofs.Ytibjkjhpfmmjoaa.M
attribute [local go_sem] max2_int min2_int max_two min_two max_three min_three max_four min_four
set_option linter.unusedVariables false
set_option linter.unusedSimpArgs false
set_option maxRecDepth 100000
theorem stp_bs {P : Program} {ops : Array Oper} {o : Oper} {a : Act} {Q : Exit → Act → World → Prop} {Kc : Act → World → Prop} {w W : World} {S : Nat → Prop} {L : List As} (hw : Region.wanted o (yielded ops a.tmps) = true) {cs : Array Value} {t : TypeId} {m : Nat} (HS : Aside0 (Mod w W S L))
    (hrun : (execOp a.eval o).run P W = .ok (.value (.slice (some ⟨W.heap.size, 0, none⟩) m m)) (W.alloc (.cells cs t (0, 0))))
    (h : ∀ g w1, w.heap.size ≤ g → Aside0 (Mod w w1 S (bx g t cs :: L)) → Kc (a.put o.dst (.slice (some ⟨g, 0, none⟩) m m)) w1) : Stp P ops Q o a W Kc := by
  unfold Stp
  rw [if_pos hw]
  unfold Oper.wp
  rw [hrun]
  exact h _ _ HS.out.size ⟨HS.out.new (A := [bx W.heap.size t cs]) (Sep.one (below_alloc (Below.refl _ _) _) (blk_new W _) (fun k hk => by rw [show k = W.heap.size from hk]; exact Nat.le_refl _))⟩
theorem specAlike (d n d2 n2 : Int) (A A2 : Option Addr) (m c m2 c2 : Nat) (w : World) : Calls Try.prog 117 #[.agg #[.int .i64 d, .int .i64 n, .slice A m c], .agg #[.int .i64 d2, .int .i64 n2, .slice A2 m2 c2]] w fun e w' => e = .returned (.bool (decide (d = d2 ∧ n = n2))) ∧ Below w.heap.size w w' := by
  have HS := Aside0.mk (Sep.refl w)
  by_cases h1 : d = d2
  · subst h1
    have hb : (d == d) = true := by simp
    by_cases h2 : n = n2
    · subst h2
      have hb2 : (n == n) = true := by simp
      go_enter Try.func117, Try.ntmps117
      go_wp2_with (first | ((with_reducible refine gate_dst (N := 2) rfl ?_); refine bxL 26 #[.int .i64 d, .int .i64 n, .slice A m c] HS ?_; clear HS; intro g_x w1 hg_x HS) | ((with_reducible refine gate_dst (N := 3) rfl ?_); refine bxL 26 #[.int .i64 d, .int .i64 n, .slice A2 m2 c2] HS ?_; clear HS; intro g_y w1 hg_y HS; have f1_ := HS.out.c 1 0 (v := .int .i64 d) rfl rfl; have f2_ := HS.out.c 0 0 (v := .int .i64 d) rfl rfl; have f3_ := HS.out.c 1 1 (v := .int .i64 n) rfl rfl; have f4_ := HS.out.c 0 1 (v := .int .i64 n) rfl rfl))
      go_ret
      exact ⟨ret_bool (by simp), HS.out.below⟩
    · have hb2 : (n == n2) = false := by simpa using h2
      go_enter Try.func117, Try.ntmps117
      go_wp2_with (first | ((with_reducible refine gate_dst (N := 2) rfl ?_); refine bxL 26 #[.int .i64 d, .int .i64 n, .slice A m c] HS ?_; clear HS; intro g_x w1 hg_x HS) | ((with_reducible refine gate_dst (N := 3) rfl ?_); refine bxL 26 #[.int .i64 d, .int .i64 n2, .slice A2 m2 c2] HS ?_; clear HS; intro g_y w1 hg_y HS; have f1_ := HS.out.c 1 0 (v := .int .i64 d) rfl rfl; have f2_ := HS.out.c 0 0 (v := .int .i64 d) rfl rfl; have f3_ := HS.out.c 1 1 (v := .int .i64 n) rfl rfl; have f4_ := HS.out.c 0 1 (v := .int .i64 n2) rfl rfl))
      go_ret
      exact ⟨ret_bool (by simp [h2]), HS.out.below⟩
  · have hb : (d == d2) = false := by simpa using h1
    go_enter Try.func117, Try.ntmps117
    go_wp2_with (first | ((with_reducible refine gate_dst (N := 2) rfl ?_); refine bxL 26 #[.int .i64 d, .int .i64 n, .slice A m c] HS ?_; clear HS; intro g_x w1 hg_x HS) | ((with_reducible refine gate_dst (N := 3) rfl ?_); refine bxL 26 #[.int .i64 d2, .int .i64 n2, .slice A2 m2 c2] HS ?_; clear HS; intro g_y w1 hg_y HS; have f1_ := HS.out.c 1 0 (v := .int .i64 d) rfl rfl; have f2_ := HS.out.c 0 0 (v := .int .i64 d2) rfl rfl))
    go_ret
    exact ⟨ret_bool (by simp [h1]), HS.out.below⟩
theorem implAlike (d n d2 n2 : Int) (A A2 : Option Addr) (m c m2 c2 : Nat) (w : World) : Calls Try.prog 113 #[.agg #[.int .i64 d, .int .i64 n, .slice A m c], .agg #[.int .i64 d2, .int .i64 n2, .slice A2 m2 c2]] w fun e w' => e = .returned (.bool (decide (d = d2 ∧ n = n2))) ∧ Below w.heap.size w w' := by
  have HS := Aside0.mk (Sep.refl w)
  by_cases h1 : d = d2
  · subst h1
    have hb : (d == d) = true := by simp
    by_cases h2 : n = n2
    · subst h2
      have hb2 : (n == n) = true := by simp
      go_enter Try.func113, Try.ntmps113
      go_wp2_with (first | ((with_reducible refine gate_dst (N := 2) rfl ?_); refine bxL 26 #[.int .i64 d, .int .i64 n, .slice A m c] HS ?_; clear HS; intro g_x w1 hg_x HS) | ((with_reducible refine gate_dst (N := 3) rfl ?_); refine bxL 26 #[.int .i64 d, .int .i64 n, .slice A2 m2 c2] HS ?_; clear HS; intro g_y w1 hg_y HS; have f1_ := HS.out.c 1 0 (v := .int .i64 d) rfl rfl; have f2_ := HS.out.c 0 0 (v := .int .i64 d) rfl rfl; have f3_ := HS.out.c 1 1 (v := .int .i64 n) rfl rfl; have f4_ := HS.out.c 0 1 (v := .int .i64 n) rfl rfl))
      go_ret
      exact ⟨ret_bool (by simp), HS.out.below⟩
    · have hb2 : (n == n2) = false := by simpa using h2
      go_enter Try.func113, Try.ntmps113
      go_wp2_with (first | ((with_reducible refine gate_dst (N := 2) rfl ?_); refine bxL 26 #[.int .i64 d, .int .i64 n, .slice A m c] HS ?_; clear HS; intro g_x w1 hg_x HS) | ((with_reducible refine gate_dst (N := 3) rfl ?_); refine bxL 26 #[.int .i64 d, .int .i64 n2, .slice A2 m2 c2] HS ?_; clear HS; intro g_y w1 hg_y HS; have f1_ := HS.out.c 1 0 (v := .int .i64 d) rfl rfl; have f2_ := HS.out.c 0 0 (v := .int .i64 d) rfl rfl; have f3_ := HS.out.c 1 1 (v := .int .i64 n) rfl rfl; have f4_ := HS.out.c 0 1 (v := .int .i64 n2) rfl rfl))
      go_ret
      exact ⟨ret_bool (by simp [h2]), HS.out.below⟩
  · have hb : (d == d2) = false := by simpa using h1
    go_enter Try.func113, Try.ntmps113
    go_wp2_with (first | ((with_reducible refine gate_dst (N := 2) rfl ?_); refine bxL 26 #[.int .i64 d, .int .i64 n, .slice A m c] HS ?_; clear HS; intro g_x w1 hg_x HS) | ((with_reducible refine gate_dst (N := 3) rfl ?_); refine bxL 26 #[.int .i64 d2, .int .i64 n2, .slice A2 m2 c2] HS ?_; clear HS; intro g_y w1 hg_y HS; have f1_ := HS.out.c 1 0 (v := .int .i64 d) rfl rfl; have f2_ := HS.out.c 0 0 (v := .int .i64 d2) rfl rfl))
    go_ret
    exact ⟨ret_bool (by simp [h1]), HS.out.below⟩
set_option maxHeartbeats 8000000 in
theorem specCode (d n : Int) (A : Option Addr) (c : Nat) (l : Ts) (d2 n2 : Int) (A2 : Option Addr) (c2 : Nat) (l2 : Ts) (q : Nat) (w : World) (hr : KT.C w A l.length l) (hc : l.length ≤ c) (hb : bnd l = true) (hr2 : KT.C w A2 l2.length l2) (hc2 : l2.length ≤ c2) (hb2 : bnd l2 = true)
    (hq : (bx q 26 #[.int .i64 d2, .int .i64 n2, .slice A2 l2.length c2]).I w) :
    Calls Try.prog 70 #[.agg #[.int .i64 d, .int .i64 n, .slice A l.length c], .slice (some ⟨q, 0, none⟩) 1 1] w fun e w' => e = .returned (.int .i64 (codeR d n l d2 n2 l2)) ∧ Below w.heap.size w w' := by
  have HR := Aside0.mk hr
  have HB := Aside0.mk hb
  have HR2 := Aside0.mk hr2
  have HB2 := Aside0.mk hb2
  have HQ := Aside0.mk hq
  have HS := Aside0.mk (Sep.refl w)
  clear hr hb hr2 hb2 hq
  cases h : isS d n l with
  | false =>
    rw [codeR_1 h]
    go_enter Try.func70, Try.ntmps70
    go_wp2_with (first | ((with_reducible refine gate_dst (N := 2) rfl ?_); refine bxL 26 #[.int .i64 d, .int .i64 n, .slice A l.length c] HS ?_; clear HS; intro g_x w1 hg_x HS; have f1_ := HS.out.c 0 0 (v := .int .i64 d) rfl rfl; have f2_ := HS.out.c 0 1 (v := .int .i64 n) rfl rfl; have f3_ := HS.out.c 0 2 (v := .slice A l.length c) rfl rfl) | (go_at_call 54; refine (specIs d n A c l _ (HS.out.oldC HR.out) hc HB.out).mono ?_; rintro e_ w1 ⟨rfl, hb⟩; replace HS := sB HS hb; clear hb f1_ f2_ f3_))
    go_ret
    exact ⟨rfl, HS.out.below⟩
  | true =>
    go_enter Try.func70, Try.ntmps70
    go_wp2_with (first | ((with_reducible refine gate_dst (N := 2) rfl ?_); refine bxL 26 #[.int .i64 d, .int .i64 n, .slice A l.length c] HS ?_; clear HS; intro g_x w1 hg_x HS; have f1_ := HS.out.c 0 0 (v := .int .i64 d) rfl rfl; have f2_ := HS.out.c 0 1 (v := .int .i64 n) rfl rfl; have f3_ := HS.out.c 0 2 (v := .slice A l.length c) rfl rfl) | (go_at_call 54; refine (specIs d n A c l _ (HS.out.oldC HR.out) hc HB.out).mono ?_; rintro e_ w1 ⟨rfl, hb⟩; replace HS := sB HS hb; clear hb f1_ f2_ f3_))
    go_loopw [5] (fun v w' => (v = .int .i64 0 ∨ v = .int .i64 1 ∧ Aside0 (isS d2 n2 l2 = true)) ∧ Aside0 (Mod w w' No [bx g_x 26 #[.int .i64 d, .int .i64 n, .slice A l.length c]])) (fun v _ => 1 - (intOf v).toNat)
    case atStart => exact ⟨.inl rfl, HS⟩
    case round =>
      clear HS
      obtain ⟨hv, HS⟩ := hrel
      rcases hv with rfl | ⟨rfl, H2⟩
      · skip
        cases h2 : isS d2 n2 l2 with
        | false =>
          have f1_ := bx_c (HS.out.oldI HQ.out) 0 rfl
          have f2_ := bx_c (HS.out.oldI HQ.out) 1 rfl
          have f3_ := bx_c (HS.out.oldI HQ.out) 2 rfl
          go_wp2_with (first | (go_at_call 54; refine (specIs d2 n2 A2 c2 l2 _ (HS.out.oldC HR2.out) hc2 HB2.out).mono ?_; rintro e_ w1 ⟨rfl, hb⟩; replace HS := sB HS hb; clear hb f1_ f2_ f3_))
          go_ret
          exact ⟨by rw [codeR_2 h h2]; rfl, HS.out.below⟩
        | true =>
          have f1_ := bx_c (HS.out.oldI HQ.out) 0 rfl
          have f2_ := bx_c (HS.out.oldI HQ.out) 1 rfl
          have f3_ := bx_c (HS.out.oldI HQ.out) 2 rfl
          go_wp2_with (first | (go_at_call 54; refine (specIs d2 n2 A2 c2 l2 _ (HS.out.oldC HR2.out) hc2 HB2.out).mono ?_; rintro e_ w1 ⟨rfl, hb⟩; replace HS := sB HS hb; clear hb f1_ f2_ f3_))
          go_roundw
          case rel => exact ⟨.inr ⟨by go_num, ⟨by first | trivial | exact h2⟩⟩, HS⟩
          case measure => simp [intOf]
      · have h2 := H2.out
        go_wp2
        go_loopw [6] (fun v w' => (v = .int .i64 0 ∨ v = .int .i64 1 ∧ Aside0 (decide (d = d2 ∧ n = n2) = true)) ∧ Aside0 (Mod w w' No [bx g_x 26 #[.int .i64 d, .int .i64 n, .slice A l.length c]])) (fun v _ => 1 - (intOf v).toNat)
        case atStart => exact ⟨.inl rfl, HS⟩
        case round =>
          clear HS
          obtain ⟨hv, HS⟩ := hrel
          rcases hv with rfl | ⟨rfl, H3⟩
          · skip
            cases h3 : decide (d = d2 ∧ n = n2) with
            | false =>
              go_wp2
              replace HS := sD HS
              refine ps (.p 1 (.p 2 (.p 3 (.t 0 (.t 4 (.d 5 (.p 6 .done))))))) (fun w' => w'.cell? ⟨g_x, 0, none⟩ = some (.int .i64 d) ∧ w'.cell? ⟨g_x, 1, none⟩ = some (.int .i64 n) ∧ w'.cell? ⟨g_x, 2, none⟩ = some (.slice A l.length c) ∧ w'.cell? ⟨q, 0, none⟩ = some (.int .i64 d2) ∧ w'.cell? ⟨q, 1, none⟩ = some (.int .i64 n2) ∧ w'.cell? ⟨q, 2, none⟩ = some (.slice A2 l2.length c2)) [5] ⟨HS.out.c 0 0 (v := .int .i64 d) rfl rfl, HS.out.c 0 1 (v := .int .i64 n) rfl rfl, HS.out.c 0 2 (v := .slice A l.length c) rfl rfl, bx_c (HS.out.oldI HQ.out) 0 rfl, bx_c (HS.out.oldI HQ.out) 1 rfl, bx_c (HS.out.oldI HQ.out) 2 rfl⟩ (fun hHeld => ?_)
              repeat (first | ((with_reducible refine gate_p ?_); refine rp rfl rfl ?_) | ((with_reducible refine gate_t ?_); refine rt rfl rfl hHeld ?_))
              refine run_d rfl (fun K hK => ?_)
              refine gc Try.func117 ((h3 ▸ specAlike d n d2 n2 A A2 l.length c l2.length c2 _ : Calls Try.prog 117 #[.agg #[.int .i64 d, .int .i64 n, .slice A l.length c], .agg #[.int .i64 d2, .int .i64 n2, .slice A2 l2.length c2]] _ fun e w' => e = .returned (.bool false) ∧ _)) rfl rfl ?_
              rintro e_ w1 ⟨rfl, hb⟩
              refine ⟨_, rfl, ?_⟩
              replace HS := sB HS hb
              clear hb
              refine gd hK ?_
              clear hK K
              repeat (first | ((with_reducible refine gate_p ?_); refine rp rfl rfl ?_) | ((with_reducible refine gate_t ?_); refine rt rfl rfl hHeld ?_))
              refine run_done ?_
              clear hHeld
              go_wp2
              go_ret
              exact ⟨by rw [codeR_3 h h2 h3]; rfl, HS.out.below⟩
            | true =>
              go_wp2
              replace HS := sD HS
              refine ps (.p 1 (.p 2 (.p 3 (.t 0 (.t 4 (.d 5 (.p 6 .done))))))) (fun w' => w'.cell? ⟨g_x, 0, none⟩ = some (.int .i64 d) ∧ w'.cell? ⟨g_x, 1, none⟩ = some (.int .i64 n) ∧ w'.cell? ⟨g_x, 2, none⟩ = some (.slice A l.length c) ∧ w'.cell? ⟨q, 0, none⟩ = some (.int .i64 d2) ∧ w'.cell? ⟨q, 1, none⟩ = some (.int .i64 n2) ∧ w'.cell? ⟨q, 2, none⟩ = some (.slice A2 l2.length c2)) [5] ⟨HS.out.c 0 0 (v := .int .i64 d) rfl rfl, HS.out.c 0 1 (v := .int .i64 n) rfl rfl, HS.out.c 0 2 (v := .slice A l.length c) rfl rfl, bx_c (HS.out.oldI HQ.out) 0 rfl, bx_c (HS.out.oldI HQ.out) 1 rfl, bx_c (HS.out.oldI HQ.out) 2 rfl⟩ (fun hHeld => ?_)
              repeat (first | ((with_reducible refine gate_p ?_); refine rp rfl rfl ?_) | ((with_reducible refine gate_t ?_); refine rt rfl rfl hHeld ?_))
              refine run_d rfl (fun K hK => ?_)
              refine gc Try.func117 ((h3 ▸ specAlike d n d2 n2 A A2 l.length c l2.length c2 _ : Calls Try.prog 117 #[.agg #[.int .i64 d, .int .i64 n, .slice A l.length c], .agg #[.int .i64 d2, .int .i64 n2, .slice A2 l2.length c2]] _ fun e w' => e = .returned (.bool true) ∧ _)) rfl rfl ?_
              rintro e_ w1 ⟨rfl, hb⟩
              refine ⟨_, rfl, ?_⟩
              replace HS := sB HS hb
              clear hb
              refine gd hK ?_
              clear hK K
              repeat (first | ((with_reducible refine gate_p ?_); refine rp rfl rfl ?_) | ((with_reducible refine gate_t ?_); refine rt rfl rfl hHeld ?_))
              refine run_done ?_
              clear hHeld
              go_wp2
              go_roundw
              case rel => exact ⟨.inr ⟨by go_num, ⟨by first | trivial | exact h3⟩⟩, HS⟩
              case measure => simp [intOf]
          · skip
            go_wp2
            go_ret
            exact ⟨by rw [codeR_4 h h2 H3.out]; rfl, HS.out.below⟩
set_option maxHeartbeats 8000000 in
theorem implCode (d n : Int) (A : Option Addr) (c : Nat) (l : Ts) (d2 n2 : Int) (A2 : Option Addr) (c2 : Nat) (l2 : Ts) (w : World) (hr : KT.C w A l.length l) (hc : l.length ≤ c) (hb : bnd l = true) (hr2 : KT.C w A2 l2.length l2) (hc2 : l2.length ≤ c2) (hb2 : bnd l2 = true) :
    Calls Try.prog 67 #[.agg #[.int .i64 d, .int .i64 n, .slice A l.length c], .agg #[.int .i64 d2, .int .i64 n2, .slice A2 l2.length c2]] w fun e w' => e = .returned (.int .i64 (codeR d n l d2 n2 l2)) ∧ Below w.heap.size w w' := by
  have HR := Aside0.mk hr
  have HB := Aside0.mk hb
  have HR2 := Aside0.mk hr2
  have HB2 := Aside0.mk hb2
  have HS := Aside0.mk (Sep.refl w)
  clear hr hb hr2 hb2
  cases h : isS d n l with
  | false =>
    rw [codeR_1 h]
    go_enter Try.func67, Try.ntmps67
    go_wp2_with (first | ((with_reducible refine gate_dst (N := 2) rfl ?_); refine bxL 26 #[.int .i64 d, .int .i64 n, .slice A l.length c] HS ?_; clear HS; intro g_x w1 hg_x HS) | ((with_reducible refine gate_dst (N := 3) rfl ?_); refine bxL 26 #[.int .i64 d2, .int .i64 n2, .slice A2 l2.length c2] HS ?_; clear HS; intro g_y w1 hg_y HS; have f1_ := HS.out.c 1 0 (v := .int .i64 d) rfl rfl; have f2_ := HS.out.c 1 1 (v := .int .i64 n) rfl rfl; have f3_ := HS.out.c 1 2 (v := .slice A l.length c) rfl rfl) | (go_at_call 52; refine (implIs d n A c l _ (HS.out.oldC HR.out) hc HB.out).mono ?_; rintro e_ w1 ⟨rfl, hb⟩; replace HS := sB HS hb; clear hb f1_ f2_ f3_))
    go_ret
    exact ⟨rfl, HS.out.below⟩
  | true =>
    cases h2 : isS d2 n2 l2 with
    | false =>
      rw [codeR_2 h h2]
      go_enter Try.func67, Try.ntmps67
      have tk1_ : True := trivial
      go_wp2_with (first | ((with_reducible refine gate_dst (N := 2) rfl ?_); refine bxL 26 #[.int .i64 d, .int .i64 n, .slice A l.length c] HS ?_; clear HS; intro g_x w1 hg_x HS) | ((with_reducible refine gate_dst (N := 3) rfl ?_); refine bxL 26 #[.int .i64 d2, .int .i64 n2, .slice A2 l2.length c2] HS ?_; clear HS; intro g_y w1 hg_y HS; have f1_ := HS.out.c 1 0 (v := .int .i64 d) rfl rfl; have f2_ := HS.out.c 1 1 (v := .int .i64 n) rfl rfl; have f3_ := HS.out.c 1 2 (v := .slice A l.length c) rfl rfl) | (go_at_call 52; clear tk1_; refine (implIs d n A c l _ (HS.out.oldC HR.out) hc HB.out).mono ?_; rintro e_ w1 ⟨rfl, hb⟩; replace HS := sB HS hb; clear hb f1_ f2_ f3_; have f1_ := HS.out.c 0 0 (v := .int .i64 d2) rfl rfl; have f2_ := HS.out.c 0 1 (v := .int .i64 n2) rfl rfl; have f3_ := HS.out.c 0 2 (v := .slice A2 l2.length c2) rfl rfl) | (go_at_call 52; refine (implIs d2 n2 A2 c2 l2 _ (HS.out.oldC HR2.out) hc2 HB2.out).mono ?_; rintro e_ w1 ⟨rfl, hb⟩; replace HS := sB HS hb; clear hb f1_ f2_ f3_))
      go_ret
      exact ⟨rfl, HS.out.below⟩
    | true =>
      have HC := Aside0.mk (fun W => implAlike d n d2 n2 A A2 l.length c l2.length c2 W)
      cases h3 : decide (d = d2 ∧ n = n2) with
      | false =>
        rw [codeR_3 h h2 h3]
        rw [h3] at HC
        clear h3
        go_enter Try.func67, Try.ntmps67
        have tk2_ : True := trivial
        go_wp2_with (first | ((with_reducible refine gate_dst (N := 2) rfl ?_); refine bxL 26 #[.int .i64 d, .int .i64 n, .slice A l.length c] HS ?_; clear HS; intro g_x w1 hg_x HS) | ((with_reducible refine gate_dst (N := 3) rfl ?_); refine bxL 26 #[.int .i64 d2, .int .i64 n2, .slice A2 l2.length c2] HS ?_; clear HS; intro g_y w1 hg_y HS; have f1_ := HS.out.c 1 0 (v := .int .i64 d) rfl rfl; have f2_ := HS.out.c 1 1 (v := .int .i64 n) rfl rfl; have f3_ := HS.out.c 1 2 (v := .slice A l.length c) rfl rfl) | (go_at_call 52; clear tk2_; refine (implIs d n A c l _ (HS.out.oldC HR.out) hc HB.out).mono ?_; rintro e_ w1 ⟨rfl, hb⟩; replace HS := sB HS hb; clear hb f1_ f2_ f3_; have f1_ := HS.out.c 0 0 (v := .int .i64 d2) rfl rfl; have f2_ := HS.out.c 0 1 (v := .int .i64 n2) rfl rfl; have f3_ := HS.out.c 0 2 (v := .slice A2 l2.length c2) rfl rfl) | (go_at_call 52; refine (implIs d2 n2 A2 c2 l2 _ (HS.out.oldC HR2.out) hc2 HB2.out).mono ?_; rintro e_ w1 ⟨rfl, hb⟩; replace HS := sB HS hb; clear hb f1_ f2_ f3_; have f1_ := HS.out.c 1 0 (v := .int .i64 d) rfl rfl; have f2_ := HS.out.c 1 1 (v := .int .i64 n) rfl rfl; have f3_ := HS.out.c 1 2 (v := .slice A l.length c) rfl rfl; have f4_ := HS.out.c 0 0 (v := .int .i64 d2) rfl rfl; have f5_ := HS.out.c 0 1 (v := .int .i64 n2) rfl rfl; have f6_ := HS.out.c 0 2 (v := .slice A2 l2.length c2) rfl rfl) | (go_at_call 113; refine (HC.out _).mono ?_; rintro e_ w1 ⟨rfl, hb⟩; replace HS := sB HS hb; clear hb f1_ f2_ f3_ f4_ f5_ f6_))
        go_ret
        exact ⟨rfl, HS.out.below⟩
      | true =>
        rw [codeR_4 h h2 h3]
        rw [h3] at HC
        clear h3
        go_enter Try.func67, Try.ntmps67
        have tk3_ : True := trivial
        go_wp2_with (first | ((with_reducible refine gate_dst (N := 2) rfl ?_); refine bxL 26 #[.int .i64 d, .int .i64 n, .slice A l.length c] HS ?_; clear HS; intro g_x w1 hg_x HS) | ((with_reducible refine gate_dst (N := 3) rfl ?_); refine bxL 26 #[.int .i64 d2, .int .i64 n2, .slice A2 l2.length c2] HS ?_; clear HS; intro g_y w1 hg_y HS; have f1_ := HS.out.c 1 0 (v := .int .i64 d) rfl rfl; have f2_ := HS.out.c 1 1 (v := .int .i64 n) rfl rfl; have f3_ := HS.out.c 1 2 (v := .slice A l.length c) rfl rfl) | (go_at_call 52; clear tk3_; refine (implIs d n A c l _ (HS.out.oldC HR.out) hc HB.out).mono ?_; rintro e_ w1 ⟨rfl, hb⟩; replace HS := sB HS hb; clear hb f1_ f2_ f3_; have f1_ := HS.out.c 0 0 (v := .int .i64 d2) rfl rfl; have f2_ := HS.out.c 0 1 (v := .int .i64 n2) rfl rfl; have f3_ := HS.out.c 0 2 (v := .slice A2 l2.length c2) rfl rfl) | (go_at_call 52; refine (implIs d2 n2 A2 c2 l2 _ (HS.out.oldC HR2.out) hc2 HB2.out).mono ?_; rintro e_ w1 ⟨rfl, hb⟩; replace HS := sB HS hb; clear hb f1_ f2_ f3_; have f1_ := HS.out.c 1 0 (v := .int .i64 d) rfl rfl; have f2_ := HS.out.c 1 1 (v := .int .i64 n) rfl rfl; have f3_ := HS.out.c 1 2 (v := .slice A l.length c) rfl rfl; have f4_ := HS.out.c 0 0 (v := .int .i64 d2) rfl rfl; have f5_ := HS.out.c 0 1 (v := .int .i64 n2) rfl rfl; have f6_ := HS.out.c 0 2 (v := .slice A2 l2.length c2) rfl rfl) | (go_at_call 113; refine (HC.out _).mono ?_; rintro e_ w1 ⟨rfl, hb⟩; replace HS := sB HS hb; clear hb f1_ f2_ f3_ f4_ f5_ f6_))
        go_ret
        exact ⟨rfl, HS.out.below⟩
end Go.Proofs.Ytibjkjhpfmmjoaa.H
namespace Go.Proofs.Ytibjkjhpfmmjoaa.M
def twoR (f : Nat → Nat → Ts → Ts → Option Ts) (d n : Int) (l : Ts) (d2 n2 : Int) (l2 : Ts) : Rs := if codeR d n l d2 n2 l2 = 0 then resO d n (f d.toNat n.toNat l l2) else noS (codeR d n l d2 n2 l2)
end Go.Proofs.Ytibjkjhpfmmjoaa.M


namespace Go.Proofs.Ytibjkjhpfmmjoaa.M
end Go.Proofs.Ytibjkjhpfmmjoaa.M
namespace Go.Proofs.Ytibjkjhpfmmjoaa.M
set_option linter.unusedVariables false
theorem mul_comm' (a b : Fr) : mul a b = mul b a := by unfold mul; rw [Int.mul_comm a.1, Int.mul_comm a.2]
theorem mul_one1 {a : Fr} (h : fr a = true) : mul a (1, 1) = some a := by
  unfold mul
  rw [Int.mul_one, Int.mul_one]
  exact frac_self h
theorem fr_nat {m : Nat} (h : m ≤ 1000000000) : fr ((m : Nat), 1) = true := by
  refine (isFr_iff _ _).2 ⟨by omega, by omega, by omega, by omega, ?_⟩
  simp
def shTm (v w u : ByteArray) : Tm := (u, ((sh (bl v) (bl w) (bl u) : Nat) : Int), 1)
def shWT (d n : Nat) (v w : ByteArray) : Ts := if n < v.size + w.size then [] else (shW d v w).map (shTm v w)
theorem stepW_tail (v w : ByteArray) : ∀ (ws : List ByteArray) (z : Ts), (∀ u ∈ ws, 0 < sh (bl v) (bl w) (bl u) ∧ u.size ≤ 16) → (ws.Pairwise fun a b => bef a b = true) → (∀ t ∈ z, ∀ u ∈ ws, bef t.1 u = true) →
    ws.foldlM (stepW false v w (1, 1)) z = some (z ++ ws.map (shTm v w))
  | [], z, _, _, _ => by simp
  | u :: ws, z, h1, h2, h3 => by
    obtain ⟨g1, g2⟩ := h1 u List.mem_cons_self
    have hm := shN_le' (v := bl v) (w := bl w) (u := bl u) (by rw [bl_len]; exact g2)
    have hf := fr_nat (m := sh (bl v) (bl w) (bl u)) (by omega)
    have e : stepW false v w (1, 1) z u = some (z ++ [shTm v w u]) := by
      have hn : numS false v w u = sh (bl v) (bl w) (bl u) := rfl
      rw [stepW_pos (by rw [hn]; omega), hn, mul_comm', mul_one1 hf]
      show put z u _ = _
      have hp := put_tl (s := u) (a := (0, 1)) (z := z) (by rfl) hf fun t ht => h3 t ht u List.mem_cons_self
      rw [tl_zero, List.append_nil, add_zero_left hf] at hp
      rw [hp]
      show some (z ++ tl u _) = _
      unfold tl shTm
      rw [if_neg (by show ¬ ((sh (bl v) (bl w) (bl u) : Nat) : Int) = 0; omega)]
    rw [List.foldlM_cons, e]
    obtain ⟨p1, p2⟩ := List.pairwise_cons.1 h2
    refine (stepW_tail v w ws _ (fun x hx => h1 x (List.mem_cons_of_mem _ hx)) p2 ?_).trans ?_
    · intro t ht x hx
      rcases List.mem_append.1 ht with ht | ht
      · exact h3 t ht x (List.mem_cons_of_mem _ hx)
      · rw [List.mem_singleton.1 ht]; exact p1 x hx
    · rw [List.map_cons, List.append_assoc]; rfl
theorem sh_two {d n : Nat} (hd : d ≤ 9) (hn : n ≤ 16) (v w : ByteArray) : shS d n false [(v, (1, 1))] [(w, (1, 1))] = some (shWT d n v w) := by
  unfold shS
  rw [List.foldlM_cons]
  show (stepA d n false [(w, (1, 1))] [] (v, (1, 1)) >>= fun z => List.foldlM _ z []) = _
  have e : stepA d n false [(w, (1, 1))] [] (v, (1, 1)) = some (shWT d n v w) := by
    unfold stepA
    rw [if_neg (by simp), List.foldlM_cons]
    show (stepB d n false (v, (1, 1)) [] (w, (1, 1)) >>= fun z => List.foldlM _ z []) = _
    have e2 : stepB d n false (v, (1, 1)) [] (w, (1, 1)) = some (shWT d n v w) := by
      unfold stepB shWT
      rw [show mul ((v, ((1 : Int), (1 : Int))) : Tm).2 ((w, ((1 : Int), (1 : Int))) : Tm).2 = some (1, 1) from mul_one1 (a := (1, 1)) (by decide)]
      show (if n < v.size + w.size then some [] else _) = _
      by_cases hl : n < v.size + w.size
      · rw [if_pos hl, if_pos hl]
      · rw [if_neg hl, if_neg hl, ← shW_fold, stepW_tail v w (shW d v w) []]
        · simp
        · intro u hu
          refine ⟨of_decide_eq_true (List.mem_filter.1 hu).2, ?_⟩
          have := (shW_mem hd hu).1
          omega
        · exact (wordsN_srt hd _).sublist List.filter_sublist
        · intro t ht; cases ht
    rw [e2]; rfl
  rw [e]; rfl
theorem shWT_len {d n : Nat} (hd : d ≤ 3) (hn : n ≤ 8) (v w : ByteArray) : (shWT d n v w).length ≤ 1048576 := by
  unfold shWT
  split
  · show (0 : Nat) ≤ _; decide
  · rw [List.length_map]
    have h1 := List.length_filter_le (fun u => decide (0 < sh (bl v) (bl w) (bl u))) (wordsN d (v.size + w.size))
    have h2 := wordsN_le (d := d) (n := v.size + w.size) hd (by omega)
    unfold shW
    omega
/-! ### the value at a shuffle -/
end Go.Proofs.Ytibjkjhpfmmjoaa.M
namespace Go.Proofs.Ytibjkjhpfmmjoaa.H
open Go.RowKit Go.Proofs.YtibjkjhpfmmjoaaW.PrintWords Go.Proofs.YtibjkjhpfmmjoaaW.PrintLast Go.Proofs.YtibjkjhpfmmjoaaW.PrintMore Go.Proofs.Ytibjkjhpfmmjoaa.M
attribute [local go_sem] max2_int min2_int max_two min_two max_three min_three max_four min_four
set_option linter.unusedVariables false
set_option linter.unusedSimpArgs false
set_option maxRecDepth 100000
end Go.Proofs.Ytibjkjhpfmmjoaa.H

namespace Go.Proofs.Ytibjkjhpfmmjoaa.M
set_option linter.unusedVariables false
set_option linter.unusedSimpArgs false
theorem foldM_rv {α : Type} {d n : Nat} {g : Ts → α → Option Ts} {w : ByteArray} {val : α → Rat} : ∀ {l : List α} {z z' : Ts}, (∀ a ∈ l, ∀ z z', isTs d n z = true → g z a = some z' → isTs d n z' = true ∧ rv (co z' w) = rv (co z w) + val a) → isTs d n z = true → l.foldlM g z = some z' →
    isTs d n z' = true ∧ rv (co z' w) = rv (co z w) + qs val l
  | [], z, z', _, hz, h => by
    have e : z = z' := by simpa using h
    subst e
    exact ⟨hz, by show _ = _ + (0 : Rat); grind⟩
  | a :: l, z, z', hg, hz, h => by
    rw [List.foldlM_cons] at h
    cases hp : g z a with
    | none => rw [hp] at h; cases h
    | some y =>
      rw [hp] at h
      obtain ⟨h1, h2⟩ := hg a List.mem_cons_self z y hz hp
      obtain ⟨h3, h4⟩ := foldM_rv (fun b hb => hg b (List.mem_cons_of_mem _ hb)) h1 h
      refine ⟨h3, ?_⟩
      rw [h4, h2]
      show _ = _ + (val a + qs val l)
      grind
theorem rv_natc (m : Nat) : rv ((m : Nat), 1) = ((m : Nat) : Rat) := by
  rw [rv_int]
  exact Rat.intCast_natCast m
theorem numS_len (half : Bool) {v w u : ByteArray} (h : v.size + w.size ≠ u.size) : numS half v w u = 0 := by
  have h1 := numS_le half v w u
  have h2 := sh_len (bl u) (bl v) (bl w) (by rw [bl_len, bl_len, bl_len]; exact h)
  omega
theorem stepW_rv {d n : Nat} {half : Bool} {v w : ByteArray} {p : Fr} (hp : fr p = true) {u s : ByteArray} (hu : isWd d u = true) (hn : u.size ≤ n) (h16 : u.size ≤ 16) {z z' : Ts} (hz : isTs d n z = true) (h : stepW half v w p z u = some z') :
    isTs d n z' = true ∧ rv (co z' s) = rv (co z s) + if u = s then rv p * ((numS half v w s : Nat) : Rat) else 0 := by
  by_cases h0 : numS half v w u = 0
  · rw [stepW_zero h0] at h
    injection h with h
    subst h
    refine ⟨hz, ?_⟩
    by_cases e : u = s
    · subst e
      rw [if_pos rfl, h0]
      show _ = _ + rv p * ((0 : Nat) : Rat)
      have : ((0 : Nat) : Rat) = 0 := by decide +kernel
      rw [this]; grind
    · rw [if_neg e]; grind
  · rw [stepW_pos h0] at h
    have hle : numS half v w u ≤ 65536 := Nat.le_trans (numS_le half v w u) (shN_le' (by rw [bl_len]; exact h16))
    have hf := fr_nat (m := numS half v w u) (by omega)
    cases hq : mul p ((numS half v w u : Nat), 1) with
    | none => rw [hq] at h; cases h
    | some q =>
      rw [hq] at h
      have h' : put z u q = some z' := h
      have hr := mul_rv hp hf hq
      rcases put_co hz hu hn (mul_fr hq) with ⟨e1, _⟩ | ⟨l', c, e1, e2, e3, e4, _⟩
      · rw [e1] at h'; cases h'
      · rw [e1] at h'
        injection h' with h'
        subst h'
        refine ⟨e3, ?_⟩
        rw [e4]
        unfold upd
        by_cases e : s = u
        · subst e
          rw [if_pos rfl, if_pos rfl, add_rv (co_fr hz s) (mul_fr hq) e2, hr, rv_natc]
        · rw [if_neg e, if_neg (fun h => e h.symm)]; grind
def shv (half : Bool) (s : ByteArray) (a b : Tm) : Rat := rv a.2 * rv b.2 * ((numS half a.1 b.1 s : Nat) : Rat)
theorem rat0 : ((0 : Nat) : Rat) = 0 := by decide +kernel
theorem stepB_rv {d n : Nat} (hd : d ≤ 9) (hn16 : n ≤ 16) {half : Bool} {a b : Tm} (ha : fr a.2 = true) (hb : fr b.2 = true) {s : ByteArray} (hs : isWd d s = true) (hn : s.size ≤ n) {z z' : Ts} (hz : isTs d n z = true) (h : stepB d n half a z b = some z') :
    isTs d n z' = true ∧ rv (co z' s) = rv (co z s) + shv half s a b := by
  unfold stepB at h
  cases hp : mul a.2 b.2 with
  | none => rw [hp] at h; cases h
  | some p =>
    rw [hp] at h
    have h' : (if n < a.1.size + b.1.size then some z else (wordsN d (a.1.size + b.1.size)).foldlM (stepW half a.1 b.1 p) z) = some z' := h
    have hpr := mul_rv ha hb hp
    unfold shv
    by_cases hl : n < a.1.size + b.1.size
    · rw [if_pos hl] at h'
      injection h' with h'
      subst h'
      refine ⟨hz, ?_⟩
      rw [numS_len half (by omega), rat0]; grind
    · rw [if_neg hl] at h'
      obtain ⟨h1, h2⟩ := foldM_rv (w := s) (val := fun u => if u = s then rv p * ((numS half a.1 b.1 s : Nat) : Rat) else 0) (fun u hu z z' hz hg => by
        obtain ⟨g1, g2⟩ := wordsN_mem hd hu
        exact stepW_rv (mul_fr hp) g2 (by omega) (by omega) hz hg) hz h'
      refine ⟨h1, ?_⟩
      rw [h2]
      congr 1
      by_cases hsz : s.size = a.1.size + b.1.size
      · rw [qs_single (g := fun _ => rv p * ((numS half a.1 b.1 s : Nat) : Rat)) (wordsN_srt hd _) (by rw [← hsz]; exact List.mem_of_getElem? (wordsN_get rfl hs)), hpr]
      · rw [numS_len half (fun e => hsz e.symm), rat0, qs_zero]
        · grind
        · intro u hu
          split <;> grind
theorem stepA_rv {d n : Nat} (hd : d ≤ 9) (hn16 : n ≤ 16) {half : Bool} {a : Tm} {y : Ts} (ha : fr a.2 = true) (hy : isTs d n y = true) {s : ByteArray} (hs : isWd d s = true) (hn : s.size ≤ n) {z z' : Ts} (hz : isTs d n z = true) (h : stepA d n half y z a = some z') :
    isTs d n z' = true ∧ rv (co z' s) = rv (co z s) + qs (shv half s a) y := by
  unfold stepA at h
  by_cases hh : half = true ∧ a.1.size = 0
  · rw [if_pos hh] at h
    injection h with h
    subst h
    refine ⟨hz, ?_⟩
    rw [qs_zero]
    · grind
    · intro b _
      unfold shv numS
      rw [if_pos hh.1]
      have : bl a.1 = [] := List.eq_nil_of_length_eq_zero (by rw [bl_len]; exact hh.2)
      rw [this]
      show _ * ((0 : Nat) : Rat) = 0
      rw [rat0]; grind
  · rw [if_neg hh] at h
    exact foldM_rv (fun b hb z z' hz hg => stepB_rv hd hn16 ha (isTm_fr ((isTs_iff.1 hy).1 b hb)).1 hs hn hz hg) hz h
theorem sh_rv {d n : Nat} (hd : d ≤ 9) (hn16 : n ≤ 16) {half : Bool} {x y z : Ts} (hx : isTs d n x = true) (hy : isTs d n y = true) (h : shS d n half x y = some z) : isTs d n z = true ∧ ∀ s, isWd d s = true → s.size ≤ n → rv (co z s) = qs (fun a => qs (shv half s a) y) x := by
  have key : ∀ s, isWd d s = true → s.size ≤ n → isTs d n z = true ∧ rv (co z s) = qs (fun a => qs (shv half s a) y) x := fun s hs hn => by
    obtain ⟨h1, h2⟩ := foldM_rv (w := s) (fun a ha z z' hz hg => stepA_rv hd hn16 (isTm_fr ((isTs_iff.1 hx).1 a ha)).1 hy hs hn hz hg) (isTs_nil d n) h
    refine ⟨h1, ?_⟩
    rw [h2, co_nil, rv_zero]; grind
  exact ⟨(key eps (by rfl) (Nat.zero_le _)).1, fun s hs hn => (key s hs hn).2⟩
theorem halves_sum {d n : Nat} (hd : d ≤ 9) (hn16 : n ≤ 16) {x y o1 o2 z : Ts} (hx : isTs d n x = true) (hy : isTs d n y = true) (hx0 : ∀ t ∈ x, t.1.size ≠ 0) (hy0 : ∀ t ∈ y, t.1.size ≠ 0) (h1 : shS d n true x y = some o1) (h2 : shS d n true y x = some o2) (h : shS d n false x y = some z) : sumS o1 o2 = some z := by
  obtain ⟨t1, e1⟩ := sh_rv hd hn16 hx hy h1
  obtain ⟨t2, e2⟩ := sh_rv hd hn16 hy hx h2
  obtain ⟨t, e⟩ := sh_rv hd hn16 hx hy h
  have key : ∀ s, isWd d s = true → s.size ≤ n → rv (co z s) = rv (co o1 s) + rv (co o2 s) := fun s hs hn => by
    rw [e s hs hn, e1 s hs hn, e2 s hs hn, qs_swap (fun a b => shv true s a b) x y, ← qs_add]
    refine qs_congr fun a ha => ?_
    rw [← qs_add]
    refine qs_congr fun b hb => ?_
    unfold shv numS
    rw [if_pos rfl, if_pos rfl, if_neg (by decide)]
    have hsum : sh (bl a.1) (bl b.1) (bl s) = hsh (bl a.1) (bl b.1) (bl s) + hsh (bl b.1) (bl a.1) (bl s) := by
      by_cases h0 : bl s = []
      · rw [h0]
        have ha' := hx0 a ha
        rw [← bl_len] at ha'
        have : sh (bl a.1) (bl b.1) [] = 0 := by
          rw [sh_nil]
          cases hq : bl a.1 with
          | nil => rw [hq] at ha'; exact absurd rfl ha'
          | cons c r => rfl
        rw [this]
        cases bl a.1 <;> cases bl b.1 <;> rfl
      · exact sh_halves h0
    rw [hsum, Rat.natCast_add]
    grind
  have hr := sum_relS hd t1 t2
  cases hs : sumS o1 o2 with
  | none =>
    exfalso
    rw [hs] at hr
    have hb := rel_bad hr
    obtain ⟨_, g2⟩ := mapT_all (n := n) hd (fun s => add (co o1 s) (co o2 s)) false
    rw [g2, Bool.false_or, List.any_eq_true] at hb
    obtain ⟨s, hs1, hs2⟩ := hb
    obtain ⟨w1, w2⟩ := (allW_mem hd).1 hs1
    rw [add_of (co_fr t1 s) (co_fr t2 s) (co_fr t s) (key s w1 w2)] at hs2
    cases hs2
  | some q =>
    congr 1
    have tq := sumS_ts hd t1 t2 hs
    refine ts_eq tq t fun u hu hn => ?_
    have hs' : isWd d (mkW u) = true ∧ (mkW u).size ≤ n := ⟨hu, by rw [← bl_len, bl_mk]; exact hn⟩
    rw [sum_rv t1 t2 hs u]
    exact (key (mkW u) hs'.1 hs'.2).symm
/-! ### sums of fractions -/
end Go.Proofs.Ytibjkjhpfmmjoaa.M

namespace Go.Proofs.Ytibjkjhpfmmjoaa.M
theorem isS_mk {d n : Int} {p : Ts} (h : lev d n = true) (hp : isTs d.toNat n.toNat p = true) : isS d n p = true := by unfold isS; rw [h, hp]; rfl
theorem lev_nat {d n : Int} (h : lev d n = true) : d.toNat ≤ 3 ∧ n.toNat ≤ 5 ∧ d.toNat ≤ 9 := by have := lev_iff.1 h; omega
theorem isS_bnd' {d n : Int} {p : Ts} (h : isS d n p = true) : bnd p = true := by
  obtain ⟨h1, h2, _⟩ := lev_nat (isS_l h)
  exact isTs_bnd h1 h2 (isS_t h)
end Go.Proofs.Ytibjkjhpfmmjoaa.M

