/- Plain facts and contracts of functions that the law's walk uses. Conditions: those that stand in each statement. -/
import Derived.Test.YtibjkjhpfmmjoaaShG2
import Derived.Deep.RegionWith
import Derived.Lib.IndexBytes
import Derived.WalkLawsBesides
import Derived.Test.YtibjkjhpfmmjoaaShG1
set_option linter.unusedVariables false
set_option linter.unusedSimpArgs false

/- What the reference's functions on fractions return: proved by walking their code. Conditions: the bounds that stand in each statement. -/
namespace Go.Proofs.Ytibjkjhpfmmjoaa.H
open Go.RowKit Go.Proofs.YtibjkjhpfmmjoaaW.PrintWords Go.Proofs.YtibjkjhpfmmjoaaW.PrintLast Go.Proofs.YtibjkjhpfmmjoaaW.PrintMore Go.Proofs.Ytibjkjhpfmmjoaa.M
attribute [local go_sem] max2_int min2_int max_two min_two max_three min_three max_four min_four
set_option linter.unusedVariables false
set_option linter.unusedSimpArgs false

theorem specIn (a b c : Int) (w : World) : Calls Try.prog 61 #[.int .i64 a, .int .i64 b, .int .i64 c] w fun e w' => e = .returned (.bool (inR a b c)) ∧ ∃ n, w' = w.drewN n := by
  by_cases h : b ≤ a
  · go_enter Try.func61, Try.ntmps61
    go_wp2
    go_ret
    exact ⟨ret_bool (by simp [inR, h]), 0, rfl⟩
  · go_enter Try.func61, Try.ntmps61
    go_wp2
    go_ret
    exact ⟨ret_bool (by simp [inR]; omega), 0, rfl⟩

theorem specGcd (a b : Int) (w : World) (ha : -9223372036854775807 ≤ a) (ha' : a ≤ 9223372036854775807) (hb : -9223372036854775807 ≤ b) (hb' : b ≤ 9223372036854775807) :
    Calls Try.prog 137 #[.int .i64 a, .int .i64 b] w fun e w' => e = .returned (.int .i64 (Int.gcd a b)) ∧ w = w' := by
  go_enter Try.func137, Try.ntmps137
  go_wp2
  go_loop [0, 1] (fun x y => ∃ p q : Int, x = .int .i64 p ∧ y = .int .i64 q ∧ Hid (Int.gcd p q = Int.gcd a b) ∧ -9223372036854775807 ≤ p ∧ p ≤ 9223372036854775807 ∧ -9223372036854775807 ≤ q ∧ q ≤ 9223372036854775807) (fun _ y => (intOf y).natAbs)
  case atStart => exact ⟨a, b, rfl, rfl, rfl, ha, ha', hb, hb'⟩
  case round =>
    clear ha ha' hb hb'
    obtain ⟨p, q, rfl, rfl, hg, hp, hp', hq, hq'⟩ := hrel
    by_cases h : q = 0
    · have h1 : (q == 0) = true := by simpa using h
      have h2 : (q != 0) = false := by simpa using h
      have hfin : (if p < -p then -p else p) = (Int.gcd a b : Int) := by
        rw [← hg.out, h, Int.gcd_zero_right]; split <;> omega
      clear hg h
      go_wp2
      go_ret
      exact ⟨rfl, rfl⟩
    · have h1 : (q == 0) = false := by simpa using h
      have h2 : (q != 0) = true := by simpa using h
      have hm := tmod_lt (a := p) h
      have hm' := tmod_le p q
      have hg' : Hid (Int.gcd q (p.tmod q) = Int.gcd a b) := by rw [Hid, gcd_tmod]; exact hg
      go_wp2
      go_round
      case rel => exact ⟨q, p.tmod q, rfl, rfl, hg', hq, hq', by omega, by omega⟩
      case measure => exact hm

theorem specIsFrac (a b : Int) (w : World) : Calls Try.prog 107 #[.agg #[.int .i64 a, .int .i64 b]] w fun e w' => e = .returned (.bool (isFr a b)) ∧ Below w.heap.size w w' := by
  cases h1 : inR b 1 1000000000 with
  | false =>
    have hf := Lib.hid (show isFr a b = false by simp [isFr, h1])
    go_enter Try.func107, Try.ntmps107
    go_wp2_with (first | (go_at_call 61; refine (specIn _ _ _ _).mono ?_; rintro e w1 ⟨rfl, n, rfl⟩))
    go_ret
    exact ⟨ret_bool hf.out.symm, pw_below_drewN ((Below.refl _ _).alloc (Nat.le_refl _) _) _⟩
  | true =>
    cases h2 : inR a (-1000000000) 1000000000 with
    | false =>
      have hf := Lib.hid (show isFr a b = false by simp [isFr, h1, h2])
      go_enter Try.func107, Try.ntmps107
      go_wp2_with (first | (go_at_call 61; refine (specIn _ _ _ _).mono ?_; rintro e w1 ⟨rfl, n, rfl⟩))
      go_ret
      exact ⟨ret_bool hf.out.symm, pw_below_drewN ((Below.refl _ _).alloc (Nat.le_refl _) _) _⟩
    | true =>
      have hf := Lib.hid (show isFr a b = ((Int.gcd a b : Int) == 1) by simp [isFr, h1, h2]; rfl)
      obtain ⟨k11, k12⟩ := (inR_iff _ _ _).1 h1
      obtain ⟨k21, k22⟩ := (inR_iff _ _ _).1 h2
      go_enter Try.func107, Try.ntmps107
      go_wp2_with (first | (go_at_call 61; refine (specIn _ _ _ _).mono ?_; rintro e w1 ⟨rfl, n, rfl⟩) | (go_at_call 137; refine (specGcd _ _ _ (by omega) (by omega) (by omega) (by omega)).mono ?_; rintro e w1 ⟨rfl, rfl⟩))
      go_ret
      exact ⟨ret_bool hf.out.symm, pw_below_drewN ((Below.refl _ _).alloc (Nat.le_refl _) _) _⟩

theorem specFrac (a b : Int) (w : World) (ha : -9223372036854775807 ≤ a) (ha' : a ≤ 9223372036854775807) (hb : -9223372036854775807 ≤ b) (hb' : b ≤ 9223372036854775807) :
    Calls Try.prog 139 #[.int .i64 a, .int .i64 b] w fun e w' =>
      e = .returned (.tuple #[.agg #[.int .i64 (sfrac (frac a b)).1.1, .int .i64 (sfrac (frac a b)).1.2], .bool (sfrac (frac a b)).2]) ∧ Below w.heap.size w w' := by
  by_cases h0 : b = 0
  · have hf := Lib.hid (show frac a b = none by rw [h0, frac_zero])
    have h1 : (b == 0) = true := by simpa using h0
    clear h0
    go_enter Try.func139, Try.ntmps139
    go_wp2
    refine bodyPost_ret (v := .tuple #[.agg #[.int .i64 0, .int .i64 0], .bool false]) (by simp [results, Try.results139, go_sem]) rfl ⟨by rw [hf.out]; rfl, ?_⟩
    exact (Below.refl _ _).alloc (Nat.le_refl _) _
  · have h1 : (b == 0) = false := by simpa using h0
    have hs := sgd_ne (a := a) h0
    have hs1 : (sgd a b == 0) = false := by simpa using hs
    have hg := gcd_pos (a := a) h0
    have hl := gcd_le (a := a) h0
    have hn := rnum_abs a b
    have hd := rden_abs a b
    have hwn : wrap64 (a.tdiv (sgd a b)) = a.tdiv (sgd a b) := by have : (a.tdiv (sgd a b)).natAbs ≤ a.natAbs := hn; unfold wrap64; omega
    have hwd : wrap64 (b.tdiv (sgd a b)) = b.tdiv (sgd a b) := by have : (b.tdiv (sgd a b)).natAbs ≤ b.natAbs := hd; unfold wrap64; omega
    have hwn' : IntKind.i64.wrap (a.tdiv (sgd a b)) = a.tdiv (sgd a b) := (i64_w _).trans hwn
    have hwd' : IntKind.i64.wrap (b.tdiv (sgd a b)) = b.tdiv (sgd a b) := (i64_w _).trans hwd
    have hko := Lib.hid (show okN a b = isFr (a.tdiv (sgd a b)) (b.tdiv (sgd a b)) from rfl)
    have hfr := Lib.hid (frac_ok (a := a) (b := b) h0)
    have hfb := Lib.hid (frac_bad (a := a) (b := b))
    have hrn := Lib.hid (show rnum a b = a.tdiv (sgd a b) from rfl)
    have hrd := Lib.hid (show rden a b = b.tdiv (sgd a b) from rfl)
    have hsg : b < 0 ∧ Hid (-(Int.gcd a b : Int) = sgd a b) ∨ ¬ b < 0 ∧ Hid ((Int.gcd a b : Int) = sgd a b) := by
      unfold sgd Hid; by_cases hneg : b < 0 <;> simp [hneg]
    rcases hsg with ⟨hneg, hsg⟩ | ⟨hneg, hsg⟩
    all_goals
      go_enter Try.func139, Try.ntmps139
      go_wp2_with (first | (go_at_call 137; refine (specGcd _ _ _ ha ha' hb hb').mono ?_; rintro e w1 ⟨rfl, rfl⟩))
      clear hg hl hn hd
      rw [hsg.out]
      clear hsg
      generalize sgd a b = d at *
      go_region
      go_wp2_with (first | (go_at_call 107; refine (specIsFrac _ _ _).mono ?_; rintro e w1 ⟨rfl, hb1⟩; obtain ⟨hc1, hf1⟩ := bcell hb1; have HB := Lib.hid (below_pair (w := w) (by repeat (first | exact Below.refl _ _ | (with_reducible assumption) | exact HB.out | apply below_alloc | apply pw_below_drewN | apply below_drew | refine below_set ?_ (by first | omega | (simp; done) | (simp; omega)) | assumption)) hb1); have hx0 : w1.cell? ⟨w.heap.size, 0, none⟩ = some (.int .i64 0) := (hc1 _ _ (by simp; omega)).trans (by simp); have hx1 : w1.cell? ⟨w.heap.size, 1, none⟩ = some (.int .i64 0) := (hc1 _ _ (by simp; omega)).trans (by simp); clear hb1))
      · rename_i hbad
        have hno : frac a b = none := hfb.out (by rw [hko.out]; simpa using hbad)
        exact bodyPost_ret (v := .tuple #[.agg #[.int .i64 0, .int .i64 0], .bool false]) (by simp [results, Try.results139, go_sem, hx0, hx1]) rfl ⟨by rw [hno]; rfl, by repeat (first | exact Below.refl _ _ | (with_reducible assumption) | exact HB.out | apply below_alloc | apply pw_below_drewN | apply below_drew | refine below_set ?_ (by first | omega | (simp; done) | (simp; omega)) | assumption)⟩
      · rename_i hgood
        have hyes : frac a b = some (a.tdiv d, b.tdiv d) := by rw [hfr.out (by rw [hko.out]; simpa using hgood), hrn.out, hrd.out]
        exact bodyPost_ret (v := .tuple #[.agg #[.int .i64 (a.tdiv d), .int .i64 (b.tdiv d)], .bool true]) (by simp [results, Try.results139, go_sem, hx0, hx1]) rfl ⟨by rw [hyes]; rfl, by repeat (first | exact Below.refl _ _ | (with_reducible assumption) | exact HB.out | apply below_alloc | apply pw_below_drewN | apply below_drew | refine below_set ?_ (by first | omega | (simp; done) | (simp; omega)) | assumption)⟩

theorem specTimes (a1 a2 b1 b2 : Int) (w : World) (ha : small (a1, a2)) (hb : small (b1, b2)) : Calls Try.prog 121 #[.agg #[.int .i64 a1, .int .i64 a2], .agg #[.int .i64 b1, .int .i64 b2]] w fun e w' =>
    e = .returned (.tuple #[.agg #[.int .i64 (sfrac (mul (a1, a2) (b1, b2))).1.1, .int .i64 (sfrac (mul (a1, a2) (b1, b2))).1.2], .bool (sfrac (mul (a1, a2) (b1, b2))).2]) ∧ Below w.heap.size w w' := by
  unfold small at ha hb
  obtain ⟨x1, x2, x3, x4⟩ := ha
  obtain ⟨y1, y2, y3, y4⟩ := hb
  obtain ⟨n0, m0⟩ := small_mul (a := a1) (b := b1) ⟨x1, x2⟩ ⟨y1, y2⟩
  have hw0 : wrap64 (a1 * b1) = a1 * b1 := wrap_id (by omega) (by omega)
  have hv0 : IntKind.i64.wrap (a1 * b1) = a1 * b1 := (i64_w _).trans hw0
  obtain ⟨n1, m1⟩ := small_mul (a := a2) (b := b2) ⟨x3, x4⟩ ⟨y3, y4⟩
  have hw1 : wrap64 (a2 * b2) = a2 * b2 := wrap_id (by omega) (by omega)
  have hv1 : IntKind.i64.wrap (a2 * b2) = a2 * b2 := (i64_w _).trans hw1
  have hm := Lib.hid (show mul (a1, a2) (b1, b2) = frac (a1 * b1) (a2 * b2) from rfl)
  clear x1 x2 x3 x4 y1 y2 y3 y4
  go_enter Try.func121, Try.ntmps121
  go_wp2_with (first | (go_at_call 139; refine (specFrac _ _ _ (by omega) (by omega) (by omega) (by omega)).mono ?_; rintro e w1 ⟨rfl, hb1⟩; obtain ⟨hc1, hf1⟩ := bcell hb1; have hz1 := hb1.size; (try simp at hz1); (try have hy0 := Nat.lt_of_succ_le hz1); (try have hy1 := Nat.lt_of_succ_lt hy0); (try have hy2 := Nat.lt_of_succ_lt hy1); (try have hy3 := Nat.lt_of_succ_lt hy2); (try have hv0 : w.heap.size < w1.heap.size := by omega); (try have hv1 : w.heap.size + 1 < w1.heap.size := by omega); (try have hv2 : w.heap.size + 1 + 1 < w1.heap.size := by omega); have HB := Lib.hid (below_pair (w := w) (by repeat (first | exact Below.refl _ _ | (with_reducible assumption) | exact HB.out | apply below_alloc | apply pw_below_drewN | apply below_drew | refine below_set ?_ (by first | omega | (simp; done) | (simp; omega)) | assumption)) hb1); clear hb1))
  exact bodyPost_ret (v := .tuple #[.agg #[.int .i64 (sfrac (frac (a1 * b1) (a2 * b2))).1.1, .int .i64 (sfrac (frac (a1 * b1) (a2 * b2))).1.2], .bool (sfrac (frac (a1 * b1) (a2 * b2))).2]) (by simp only [results, Try.results121]; go_simp) rfl ⟨by rw [hm.out], by repeat (first | exact Below.refl _ _ | (with_reducible assumption) | exact HB.out | apply below_alloc | apply pw_below_drewN | apply below_drew | refine below_set ?_ (by first | omega | (simp; done) | (simp; omega)) | assumption)⟩

theorem specPlus (a1 a2 b1 b2 : Int) (w : World) (ha : small (a1, a2)) (hb : small (b1, b2)) : Calls Try.prog 122 #[.agg #[.int .i64 a1, .int .i64 a2], .agg #[.int .i64 b1, .int .i64 b2]] w fun e w' =>
    e = .returned (.tuple #[.agg #[.int .i64 (sfrac (add (a1, a2) (b1, b2))).1.1, .int .i64 (sfrac (add (a1, a2) (b1, b2))).1.2], .bool (sfrac (add (a1, a2) (b1, b2))).2]) ∧ Below w.heap.size w w' := by
  unfold small at ha hb
  obtain ⟨x1, x2, x3, x4⟩ := ha
  obtain ⟨y1, y2, y3, y4⟩ := hb
  obtain ⟨n0, m0⟩ := small_mul (a := a1) (b := b2) ⟨x1, x2⟩ ⟨y3, y4⟩
  have hw0 : wrap64 (a1 * b2) = a1 * b2 := wrap_id (by omega) (by omega)
  have hv0 : IntKind.i64.wrap (a1 * b2) = a1 * b2 := (i64_w _).trans hw0
  obtain ⟨n1, m1⟩ := small_mul (a := b1) (b := a2) ⟨y1, y2⟩ ⟨x3, x4⟩
  have hw1 : wrap64 (b1 * a2) = b1 * a2 := wrap_id (by omega) (by omega)
  have hv1 : IntKind.i64.wrap (b1 * a2) = b1 * a2 := (i64_w _).trans hw1
  obtain ⟨n2, m2⟩ := small_mul (a := a2) (b := b2) ⟨x3, x4⟩ ⟨y3, y4⟩
  have hw2 : wrap64 (a2 * b2) = a2 * b2 := wrap_id (by omega) (by omega)
  have hv2 : IntKind.i64.wrap (a2 * b2) = a2 * b2 := (i64_w _).trans hw2
  have hm := Lib.hid (show add (a1, a2) (b1, b2) = frac (a1 * b2 + b1 * a2) (a2 * b2) from rfl)
  clear x1 x2 x3 x4 y1 y2 y3 y4
  go_enter Try.func122, Try.ntmps122
  go_wp2_with (first | (go_at_call 139; refine (specFrac _ _ _ (by omega) (by omega) (by omega) (by omega)).mono ?_; rintro e w1 ⟨rfl, hb1⟩; obtain ⟨hc1, hf1⟩ := bcell hb1; have hz1 := hb1.size; (try simp at hz1); (try have hy0 := Nat.lt_of_succ_le hz1); (try have hy1 := Nat.lt_of_succ_lt hy0); (try have hy2 := Nat.lt_of_succ_lt hy1); (try have hy3 := Nat.lt_of_succ_lt hy2); (try have hv0 : w.heap.size < w1.heap.size := by omega); (try have hv1 : w.heap.size + 1 < w1.heap.size := by omega); (try have hv2 : w.heap.size + 1 + 1 < w1.heap.size := by omega); have HB := Lib.hid (below_pair (w := w) (by repeat (first | exact Below.refl _ _ | (with_reducible assumption) | exact HB.out | apply below_alloc | apply pw_below_drewN | apply below_drew | refine below_set ?_ (by first | omega | (simp; done) | (simp; omega)) | assumption)) hb1); clear hb1))
  exact bodyPost_ret (v := .tuple #[.agg #[.int .i64 (sfrac (frac (a1 * b2 + b1 * a2) (a2 * b2))).1.1, .int .i64 (sfrac (frac (a1 * b2 + b1 * a2) (a2 * b2))).1.2], .bool (sfrac (frac (a1 * b2 + b1 * a2) (a2 * b2))).2]) (by simp only [results, Try.results122]; go_simp) rfl ⟨by rw [hm.out], by repeat (first | exact Below.refl _ _ | (with_reducible assumption) | exact HB.out | apply below_alloc | apply pw_below_drewN | apply below_drew | refine below_set ?_ (by first | omega | (simp; done) | (simp; omega)) | assumption)⟩

theorem specZero (a b : Int) (w : World) : Calls Try.prog 108 #[.agg #[.int .i64 a, .int .i64 b]] w fun e w' => e = .returned (.bool (a == 0)) ∧ Below w.heap.size w w' := by
  go_enter Try.func108, Try.ntmps108
  go_wp2
  go_ret
  exact ⟨rfl, by repeat (first | exact Below.refl _ _ | (with_reducible assumption) | exact HB.out | apply below_alloc | apply pw_below_drewN | apply below_drew | refine below_set ?_ (by first | omega | (simp; done) | (simp; omega)) | assumption)⟩
end Go.Proofs.Ytibjkjhpfmmjoaa.H

/- What the program's functions on fractions return: proved by walking their code. Conditions: the bounds that stand in each statement. -/
namespace Go.Proofs.Ytibjkjhpfmmjoaa.H
open Go.RowKit Go.Proofs.YtibjkjhpfmmjoaaW.PrintWords Go.Proofs.YtibjkjhpfmmjoaaW.PrintLast Go.Proofs.YtibjkjhpfmmjoaaW.PrintMore Go.Proofs.Ytibjkjhpfmmjoaa.M
attribute [local go_sem] max2_int min2_int max_two min_two max_three min_three max_four min_four
set_option linter.unusedVariables false
set_option linter.unusedSimpArgs false

theorem implIn (a b c : Int) (w : World) : Calls Try.prog 58 #[.int .i64 a, .int .i64 b, .int .i64 c] w fun e w' => e = .returned (.bool (inR a b c)) ∧ ∃ n, w' = w.drewN n := by
  by_cases h : b ≤ a
  · go_enter Try.func58, Try.ntmps58
    go_wp2
    go_ret
    exact ⟨ret_bool (by simp [inR, h]), 0, rfl⟩
  · go_enter Try.func58, Try.ntmps58
    go_wp2
    go_ret
    exact ⟨ret_bool (by simp [inR]; omega), 0, rfl⟩

theorem implUp (a b : Int) (w : World) (hb : -9223372036854775807 ≤ b) (hb' : b ≤ 9223372036854775807) : Calls Try.prog 133 #[.int .i64 a, .int .i64 b] w fun e w' => e = .returned (.bool (inR a (-b) b)) ∧ ∃ n, w' = w.drewN n := by
  go_enter Try.func133, Try.ntmps133
  go_wp2_with (first | (go_at_call 58; refine (implIn _ _ _ _).mono ?_; rintro e w1 ⟨rfl, n, rfl⟩))
  go_ret
  exact ⟨rfl, n, rfl⟩

theorem implSize (a : Int) (w : World) (ha : -9223372036854775807 ≤ a) (ha' : a ≤ 9223372036854775807) : Calls Try.prog 143 #[.int .i64 a] w fun e w' => e = .returned (.int .i64 (a.natAbs : Int)) ∧ w = w' := by
  go_enter Try.func143, Try.ntmps143
  go_wp2
  all_goals
    go_ret
    exact ⟨ret_int (by omega), rfl⟩

theorem implGcd (a b : Int) (w : World) (ha : -9223372036854775807 ≤ a) (ha' : a ≤ 9223372036854775807) (hb : -9223372036854775807 ≤ b) (hb' : b ≤ 9223372036854775807) :
    Calls Try.prog 134 #[.int .i64 a, .int .i64 b] w fun e w' => e = .returned (.int .i64 (Int.gcd a b)) ∧ ∃ n, w' = w.drewN n := by
  go_enter Try.func134, Try.ntmps134
  go_wp2_with (first | (go_at_call 143; refine (implSize _ _ (by assumption) (by assumption)).mono ?_; rintro e w1 ⟨rfl, rfl⟩))
  go_loopw [0, 1] (fun x y w' => ∃ p q n : Nat, x = .int .i64 (p : Int) ∧ y = .int .i64 (q : Int) ∧ Hid (Nat.gcd p q = Int.gcd a b) ∧ p ≤ 9223372036854775807 ∧ q ≤ 9223372036854775807 ∧ Hid (w' = w.drewN n)) (fun _ y _ => (intOf y).natAbs)
  case atStart => exact ⟨a.natAbs, b.natAbs, 0, rfl, rfl, rfl, by omega, by omega, rfl⟩
  case round =>
    clear ha ha' hb hb'
    obtain ⟨p, q, n, rfl, rfl, hg, hp, hq, hw⟩ := hrel
    by_cases h : q = 0
    · have h1 : ((q : Int) == 0) = true := by simpa using h
      have h2 : ((q : Int) != 0) = false := by simpa using h
      have hfin := Lib.hid (show (p : Int) = (Int.gcd a b : Int) by rw [← hg.out, h, Nat.gcd_zero_right])
      clear hg h
      go_wp2
      go_ret
      exact ⟨ret_int hfin.out, n, hw.out⟩
    · have h1 : ((q : Int) == 0) = false := by simpa using h
      have h2 : ((q : Int) != 0) = true := by simpa using h
      have h3 : ¬ ((q : Int) = 0) := by simpa using h
      have hm : p % q < q := Nat.mod_lt _ (by omega)
      have hg' : Hid (Nat.gcd q (p % q) = Int.gcd a b) := by rw [Hid, Nat.gcd_comm, ← Nat.gcd_rec, Nat.gcd_comm]; exact hg.out
      go_wp2
      go_region
      go_roundw
      case rel => (repeat apply Exists.intro); exact ⟨⟨q, p % q, n + 1, rfl, by go_num, hg', hq, by omega, by rw [Hid, hw.out]; rfl⟩, rfl⟩
      case measure => simp [intOf]; omega

theorem implIsFraction (a b : Int) (w : World) : Calls Try.prog 96 #[.agg #[.int .i64 a, .int .i64 b]] w fun e w' => e = .returned (.bool (isFr a b)) ∧ Below w.heap.size w w' := by
  cases h1 : inR b 1 1000000000 with
  | false =>
    have hf := Lib.hid (show isFr a b = false by simp [isFr, h1])
    go_enter Try.func96, Try.ntmps96
    go_wp2_with (first | (go_at_call 58; refine (implIn _ _ _ _).mono ?_; rintro e w1 ⟨rfl, n, rfl⟩))
    go_ret
    exact ⟨ret_bool hf.out.symm, by repeat (first | exact Below.refl _ _ | (with_reducible assumption) | exact HB.out | apply below_alloc | apply pw_below_drewN | apply below_drew | refine below_set ?_ (by first | omega | (simp; done) | (simp; omega)) | assumption)⟩
  | true =>
    cases h2 : inR a (-1000000000) 1000000000 with
    | false =>
      have hf := Lib.hid (show isFr a b = false by simp [isFr, h1, h2])
      go_enter Try.func96, Try.ntmps96
      go_wp2_with (first | (go_at_call 58; refine (implIn _ _ _ _).mono ?_; rintro e w1 ⟨rfl, n, rfl⟩) | (go_at_call 133; refine (implUp _ _ _ (by omega) (by omega)).mono ?_; rintro e w1 ⟨rfl, n, rfl⟩))
      go_ret
      exact ⟨ret_bool hf.out.symm, by repeat (first | exact Below.refl _ _ | (with_reducible assumption) | exact HB.out | apply below_alloc | apply pw_below_drewN | apply below_drew | refine below_set ?_ (by first | omega | (simp; done) | (simp; omega)) | assumption)⟩
    | true =>
      have hf := Lib.hid (show isFr a b = ((Int.gcd a b : Int) == 1) by simp [isFr, h1, h2]; rfl)
      obtain ⟨k11, k12⟩ := (inR_iff _ _ _).1 h1
      obtain ⟨k21, k22⟩ := (inR_iff _ _ _).1 h2
      go_enter Try.func96, Try.ntmps96
      go_wp2_with (first | (go_at_call 58; refine (implIn _ _ _ _).mono ?_; rintro e w1 ⟨rfl, n, rfl⟩) | (go_at_call 133; refine (implUp _ _ _ (by omega) (by omega)).mono ?_; rintro e w1 ⟨rfl, n, rfl⟩) | (go_at_call 134; refine (implGcd _ _ _ (by omega) (by omega) (by omega) (by omega)).mono ?_; rintro e w1 ⟨rfl, n, rfl⟩))
      go_ret
      exact ⟨ret_bool hf.out.symm, by repeat (first | exact Below.refl _ _ | (with_reducible assumption) | exact HB.out | apply below_alloc | apply pw_below_drewN | apply below_drew | refine below_set ?_ (by first | omega | (simp; done) | (simp; omega)) | assumption)⟩

set_option maxHeartbeats 2000000 in
theorem implReduced (a b : Int) (w : World) (h0 : b ≠ 0) (ha : -9223372036854775807 ≤ a) (ha' : a ≤ 9223372036854775807) (hb : -9223372036854775807 ≤ b) (hb' : b ≤ 9223372036854775807) :
    Calls Try.prog 141 #[.int .i64 a, .int .i64 b] w fun e w' =>
      e = .returned (.tuple #[.agg #[.int .i64 (rnum a b), .int .i64 (rden a b)], .bool (okN a b)]) ∧ Below w.heap.size w w' := by
  have hs := sgd_ne (a := a) h0
  have hs1 : (sgd a b == 0) = false := by simpa using hs
  have hg := gcd_pos (a := a) h0
  have hl := gcd_le (a := a) h0
  have hn := rnum_abs a b
  have hd := rden_abs a b
  have hwn : wrap64 (a.tdiv (sgd a b)) = a.tdiv (sgd a b) := by have : (a.tdiv (sgd a b)).natAbs ≤ a.natAbs := hn; unfold wrap64; omega
  have hwd : wrap64 (b.tdiv (sgd a b)) = b.tdiv (sgd a b) := by have : (b.tdiv (sgd a b)).natAbs ≤ b.natAbs := hd; unfold wrap64; omega
  have hwn' : IntKind.i64.wrap (a.tdiv (sgd a b)) = a.tdiv (sgd a b) := (i64_w _).trans hwn
  have hwd' : IntKind.i64.wrap (b.tdiv (sgd a b)) = b.tdiv (sgd a b) := (i64_w _).trans hwd
  have hko := Lib.hid (show isFr (a.tdiv (sgd a b)) (b.tdiv (sgd a b)) = okN a b from rfl)
  have hrn := Lib.hid (show a.tdiv (sgd a b) = rnum a b from rfl)
  have hrd := Lib.hid (show b.tdiv (sgd a b) = rden a b from rfl)
  have hsg : b < 0 ∧ Hid (-(Int.gcd a b : Int) = sgd a b) ∨ ¬ b < 0 ∧ Hid ((Int.gcd a b : Int) = sgd a b) := by
    unfold sgd Hid; by_cases hneg : b < 0 <;> simp [hneg]
  rcases hsg with ⟨hneg, hsg⟩ | ⟨hneg, hsg⟩
  all_goals
    go_enter Try.func141, Try.ntmps141
    go_wp2_with (first | (go_at_call 134; refine (implGcd _ _ _ ha ha' hb hb').mono ?_; rintro e w1 ⟨rfl, n, rfl⟩))
    clear hg hl hn hd
    rw [hsg.out]
    clear hsg
    generalize sgd a b = d at *
    go_region
    go_wp2
    go_region_with (go_at_call 96; refine (implIsFraction _ _ _).mono ?_; rintro e w1 ⟨rfl, hb1⟩; obtain ⟨hc1, hf1⟩ := bcell hb1; have hz1 := hb1.size; (try simp at hz1); (try have hy0 := Nat.lt_of_succ_le hz1); (try have hy1 := Nat.lt_of_succ_lt hy0); (try have hy2 := Nat.lt_of_succ_lt hy1); (try have hy3 := Nat.lt_of_succ_lt hy2); (try have hv0 : w.heap.size < w1.heap.size := by omega); (try have hv1 : w.heap.size + 1 < w1.heap.size := by omega); (try have hv2 : w.heap.size + 1 + 1 < w1.heap.size := by omega); have HB := Lib.hid (below_pair (w := w) (by repeat (first | exact Below.refl _ _ | (with_reducible assumption) | exact HB.out | apply below_alloc | apply pw_below_drewN | apply below_drew | refine below_set ?_ (by first | omega | (simp; done) | (simp; omega)) | assumption)) hb1); clear hb1; have hx0 : w1.cell? ⟨w.heap.size, 0, none⟩ = some (.int .i64 0) := (hc1 _ _ (by go_simp)).trans (by go_simp); have hx1 : w1.cell? ⟨w.heap.size, 1, none⟩ = some (.int .i64 0) := (hc1 _ _ (by go_simp)).trans (by go_simp))
    all_goals
      go_wp2
      exact bodyPost_ret (v := .tuple #[.agg #[.int .i64 (a.tdiv d), .int .i64 (b.tdiv d)], .bool (isFr (a.tdiv d) (b.tdiv d))]) (by simp only [results, Try.results141]; go_simp) rfl ⟨by rw [hko.out, hrn.out, hrd.out], by repeat (first | exact Below.refl _ _ | (with_reducible assumption) | exact HB.out | apply below_alloc | apply pw_below_drewN | apply below_drew | refine below_set ?_ (by first | omega | (simp; done) | (simp; omega)) | assumption)⟩
end Go.Proofs.Ytibjkjhpfmmjoaa.H


namespace Go.Proofs.Ytibjkjhpfmmjoaa.M
theorem isWd_iff {d : Nat} {s : ByteArray} : isWd d s = true ↔ ∀ j, (h : j < s.size) → 48 ≤ s[j].toNat ∧ s[j].toNat < 48 + d := by
  unfold isWd isWL bl
  rw [List.all_eq_true]
  constructor
  · intro h j hj
    have := h s[j] (by rw [show s[j] = s.data.toList[j]'(by simpa using hj) from rfl]; exact List.getElem_mem _)
    simpa using this
  · intro h c hc
    obtain ⟨j, hj, rfl⟩ := List.getElem_of_mem hc
    have := h j (by simpa using hj)
    exact decide_eq_true this
theorem isWd_no {d : Nat} {s : ByteArray} {j : Nat} (hj : j < s.size) (h : ¬ (48 ≤ (s[j].toNat : Int) ∧ (s[j].toNat : Int) < 48 + d)) : isWd d s = false := by
  rw [← Bool.not_eq_true, isWd_iff]
  intro hh
  have := hh j hj
  omega
end Go.Proofs.Ytibjkjhpfmmjoaa.M
namespace Go.Proofs.Ytibjkjhpfmmjoaa.H
open Go.RowKit Go.Proofs.YtibjkjhpfmmjoaaW.PrintWords Go.Proofs.YtibjkjhpfmmjoaaW.PrintLast Go.Proofs.YtibjkjhpfmmjoaaW.PrintMore Go.Proofs.Ytibjkjhpfmmjoaa.M
attribute [local go_sem] max2_int min2_int max_two min_two max_three min_three max_four min_four
set_option linter.unusedVariables false
set_option linter.unusedSimpArgs false
theorem u8_sub {x : Int} (h0 : 48 ≤ x) (h1 : x < 256) : IntKind.u8.wrap (x - 48) = x - 48 := IntWalk.u8_in _ ⟨by omega, by omega⟩
set_option maxRecDepth 100000 in
set_option maxHeartbeats 4000000 in
theorem specWord (d : Nat) (hd : d ≤ 9) (s : ByteArray) (hs : s.size ≤ 9223372036854775807) (w : World) :
    Calls Try.prog 90 #[.int .i64 (d : Int), .string s] w fun e w' => e = .returned (.bool (isWd d s)) ∧ Below w.heap.size w w' := by
  go_enter Try.func90, Try.ntmps90
  go_wp2
  go_loop [5] (fun i => ∃ k : Nat, k ≤ s.size ∧ i = .int .i64 (k : Int) ∧ Hid (∀ j, (h : j < s.size) → j < k → 48 ≤ s[j].toNat ∧ s[j].toNat < 48 + d)) (fun i => s.size - (intOf i).toNat)
  case atStart => exact ⟨0, by omega, rfl, fun j _ hj => by omega⟩
  case round =>
    obtain ⟨k, hk, rfl, HY⟩ := hrel
    by_cases hlt : k < s.size
    · obtain ⟨c, hc⟩ : ∃ c : Int, ∀ h : k < s.size, ((s[k]'h).toNat : Int) = c := ⟨((s[k]'hlt).toNat : Int), fun _ => rfl⟩
      have hc0 : 0 ≤ c := by rw [← hc hlt]; omega
      have hc1 : c < 256 := by have := (s[k]'hlt).toNat_lt; rw [← hc hlt]; omega
      have HC := Lib.hid (hc hlt)
      by_cases h1 : c < 48
      · go_wp2
        go_ret
        exact ⟨ret_bool (isWd_no hlt (by rw [HC.out]; omega)).symm, Below.refl _ _⟩
      · have hu := u8_sub (x := c) (by omega) hc1
        by_cases h2 : c - 48 ≥ d
        · go_wp2
          go_ret
          exact ⟨ret_bool (isWd_no hlt (by rw [HC.out]; omega)).symm, Below.refl _ _⟩
        · have h3 : ¬ (d : Int) ≤ c - 48 := by omega
          go_wp2
          go_round
          case rel => exact ⟨k + 1, by omega, by go_num, fun j h hj => (Nat.lt_succ_iff_lt_or_eq.1 hj).elim (HY j h) (fun e => by subst e; have := HC.out; omega)⟩
          case measure => simp [intOf]; omega
    · go_wp2
      go_ret
      exact ⟨ret_bool (isWd_iff.2 (fun j h => HY j h (by omega))).symm, Below.refl _ _⟩
set_option maxRecDepth 100000 in
set_option maxHeartbeats 4000000 in
theorem implWord (d n : Nat) (hd : d ≤ 9) (s : ByteArray) (hs : s.size ≤ 9223372036854775807) (w : World) :
    Calls Try.prog 63 #[.int .i64 (d : Int), .string s, .int .i64 (n : Int)] w fun e w' => e = .returned (.bool (isWd d s && decide (s.size ≤ n))) ∧ Below w.heap.size w w' := by
  go_enter Try.func63, Try.ntmps63
  go_wp2
  go_loop [10] (fun i => ∃ k : Nat, k ≤ s.size ∧ i = .int .i64 (k : Int) ∧ Hid (∀ j, (h : j < s.size) → j < k → 48 ≤ s[j].toNat ∧ s[j].toNat < 48 + d)) (fun i => s.size - (intOf i).toNat)
  case atStart => exact ⟨0, by omega, rfl, fun j _ hj => by omega⟩
  case round =>
    obtain ⟨k, hk, rfl, HY⟩ := hrel
    by_cases hlt : k < s.size
    · obtain ⟨c, hc⟩ : ∃ c : Int, ∀ h : k < s.size, ((s[k]'h).toNat : Int) = c := ⟨((s[k]'hlt).toNat : Int), fun _ => rfl⟩
      have hc0 : 0 ≤ c := by rw [← hc hlt]; omega
      have hc1 : c < 256 := by have := (s[k]'hlt).toNat_lt; rw [← hc hlt]; omega
      have HC := Lib.hid (hc hlt)
      by_cases h1 : c < 48
      · go_wp2
        go_ret
        exact ⟨ret_bool (by rw [isWd_no hlt (by rw [HC.out]; omega)]; rfl), Below.refl _ _⟩
      · by_cases h2 : c ≥ 48 + d
        · go_wp2
          go_ret
          exact ⟨ret_bool (by rw [isWd_no hlt (by rw [HC.out]; omega)]; rfl), Below.refl _ _⟩
        · have h3 : ¬ (48 + (d : Int)) ≤ c := by omega
          go_wp2
          go_round
          case rel => exact ⟨k + 1, by omega, by go_num, fun j h hj => (Nat.lt_succ_iff_lt_or_eq.1 hj).elim (HY j h) (fun e => by subst e; have := HC.out; omega)⟩
          case measure => simp [intOf]; omega
    · have HE := Lib.hid (isWd_iff.2 (fun j h => HY j h (by omega)))
      go_wp2
      go_ret
      exact ⟨ret_bool (by rw [HE.out, Bool.true_and]), Below.refl _ _⟩
theorem specSizes (d n : Int) (w : World) : Calls Try.prog 89 #[.int .i64 d, .int .i64 n] w fun e w' => e = .returned (.bool (lev d n)) ∧ Below w.heap.size w w' := by
  cases h1 : inR d 1 3 <;> cases h2 : inR n 1 5 <;> by_cases h3 : d < 3 <;> by_cases h4 : n ≤ 4
  all_goals
    have HL := Lib.hid (show lev d n = (inR d 1 3 && (inR n 1 5 && (decide (d < 3) || decide (n ≤ 4)))) from rfl)
    go_enter Try.func89, Try.ntmps89
    go_wp2_with (first | (go_at_call 61; refine (specIn _ _ _ _).mono ?_; rintro e w1 ⟨rfl, n_, rfl⟩))
    go_ret
    exact ⟨ret_bool (by rw [HL.out]; simp [*]), by repeat (first | exact Below.refl _ _ | apply pw_below_drewN)⟩
theorem implLetters (d : Int) (w : World) : Calls Try.prog 93 #[.int .i64 d] w fun e w' => e = .returned (.bool (inR d 1 3)) ∧ ∃ n, w' = w.drewN n := by
  go_enter Try.func93, Try.ntmps93
  go_wp2_with (first | (go_at_call 58; refine (implIn _ _ _ _).mono ?_; rintro e w1 ⟨rfl, n_, rfl⟩))
  go_ret
  exact ⟨rfl, _, rfl⟩
theorem lev5 (d n : Int) : lev d n = (inR d 1 3 && (inR n 1 5 && (decide (d < 3) || decide (n < 5)))) := by
  unfold lev
  rw [show decide (n ≤ 4) = decide (n < 5) from decide_eq_decide.2 (by omega)]
theorem implLevel (d n : Int) (w : World) : Calls Try.prog 78 #[.int .i64 d, .int .i64 n] w fun e w' => e = .returned (.bool (lev d n)) ∧ Below w.heap.size w w' := by
  cases h1 : inR d 1 3 <;> cases h2 : inR n 1 5 <;> by_cases h3 : d < 3 <;> by_cases h4 : n < 5
  all_goals
    have HL := Lib.hid (lev5 d n)
    go_enter Try.func78, Try.ntmps78
    go_wp2_with (first | (go_at_call 93; refine (implLetters _ _).mono ?_; rintro e w1 ⟨rfl, n_, rfl⟩) | (go_at_call 58; refine (implIn _ _ _ _).mono ?_; rintro e w1 ⟨rfl, n_, rfl⟩) | (go_at_call 61; refine (specIn _ _ _ _).mono ?_; rintro e w1 ⟨rfl, n_, rfl⟩))
    go_ret
    exact ⟨ret_bool (by rw [HL.out]; simp [*]), by repeat (first | exact Below.refl _ _ | apply pw_below_drewN)⟩
theorem lev_nat' {d n : Nat} (h : lev d n = true) : ∃ d' n' : Nat, d = d' ∧ n = n' ∧ 1 ≤ d ∧ d ≤ 3 ∧ 1 ≤ n ∧ n ≤ 5 := by
  have := lev_iff.1 h
  exact ⟨d, n, rfl, rfl, by omega, by omega, by omega, by omega⟩
end Go.Proofs.Ytibjkjhpfmmjoaa.H



namespace Go.Proofs.Ytibjkjhpfmmjoaa.H
open Go.RowKit Go.Proofs.YtibjkjhpfmmjoaaW.PrintWords Go.Proofs.YtibjkjhpfmmjoaaW.PrintLast Go.Proofs.YtibjkjhpfmmjoaaW.PrintMore Go.Proofs.Ytibjkjhpfmmjoaa.M
attribute [local go_sem] max2_int min2_int max_two min_two max_three min_three max_four min_four
set_option linter.unusedVariables false
set_option linter.unusedSimpArgs false
set_option maxRecDepth 100000
theorem getD_set {l : Ts} {k j : Nat} {t : Tm} (hk : k < l.length) : (l.set k t).getD j zT = if j = k then t else l.getD j zT := by
  rw [List.getD_eq_getElem?_getD, List.getD_eq_getElem?_getD, List.getElem?_set]
  by_cases h : k = j
  · subst h; simp [hk]
  · rw [if_neg h, if_neg (Ne.symm h)]
end Go.Proofs.Ytibjkjhpfmmjoaa.H
namespace Go.Proofs.Ytibjkjhpfmmjoaa.M
def dig (q : Nat) : ByteArray := ⟨#[(48 + q).toUInt8]⟩
end Go.Proofs.Ytibjkjhpfmmjoaa.M
namespace Go.Proofs.Ytibjkjhpfmmjoaa.H
open Go.RowKit Go.Proofs.YtibjkjhpfmmjoaaW.PrintWords Go.Proofs.YtibjkjhpfmmjoaaW.PrintLast Go.Proofs.YtibjkjhpfmmjoaaW.PrintMore Go.Proofs.Ytibjkjhpfmmjoaa.M
attribute [local go_sem] max2_int min2_int max_two min_two max_three min_three max_four min_four
set_option linter.unusedVariables false
set_option linter.unusedSimpArgs false
set_option maxRecDepth 100000
theorem u8_small (x : Int) (h0 : 0 ≤ x) (h1 : x < 256) : IntKind.u8.wrap x = x := IntWalk.u8_in x ⟨h0, by omega⟩
theorem byte_string (W : World) (x : Int) : (convert 22 9 (.slice (some ⟨W.heap.size, 0, none⟩) 1 1)).run Try.prog (W.alloc (.cells #[.int .u8 x] 5)) = .ok (.string (strOfNums [x])) (W.alloc (.cells #[.int .u8 x] 5)) := by
  have h := own_lit W 0 5 .u8 [x] (Nat.zero_le _) (by simp)
  exact own_string Try.underlying22 Try.underlying5 Try.underlying9 h
theorem dig_str (q : Nat) (h : q < 10) : strOfNums [48 + (q : Int)] = dig q := by
  match q, h with
  | 0, _ => rfl
  | 1, _ => rfl
  | 2, _ => rfl
  | 3, _ => rfl
  | 4, _ => rfl
  | 5, _ => rfl
  | 6, _ => rfl
  | 7, _ => rfl
  | 8, _ => rfl
  | 9, _ => rfl
  | n + 10, h => omega
end Go.Proofs.Ytibjkjhpfmmjoaa.H
namespace Go.Proofs.Ytibjkjhpfmmjoaa.H
open Go.RowKit Go.Proofs.YtibjkjhpfmmjoaaW.PrintWords Go.Proofs.YtibjkjhpfmmjoaaW.PrintLast Go.Proofs.YtibjkjhpfmmjoaaW.PrintMore Go.Proofs.Ytibjkjhpfmmjoaa.M
attribute [local go_sem] max2_int min2_int max_two min_two max_three min_three max_four min_four
set_option linter.unusedVariables false
set_option linter.unusedSimpArgs false
set_option maxRecDepth 100000
abbrev rowT (A : Option Addr) (c : Nat) (l : Ts) : As := rw' KT rfl 38 (.slice A l.length c) l
end Go.Proofs.Ytibjkjhpfmmjoaa.H


namespace Go.Proofs.Ytibjkjhpfmmjoaa.H
open Go.RowKit Go.Proofs.YtibjkjhpfmmjoaaW.PrintWords Go.Proofs.YtibjkjhpfmmjoaaW.PrintLast Go.Proofs.YtibjkjhpfmmjoaaW.PrintMore Go.Proofs.Ytibjkjhpfmmjoaa.M
attribute [local go_sem] max2_int min2_int max_two min_two max_three min_three max_four min_four
set_option linter.unusedVariables false
set_option linter.unusedSimpArgs false
set_option maxRecDepth 100000
theorem reps_str (s : ByteArray) (W : World) (base : Nat) (ok : Nat → Prop) : Reps (Kd.string.M W base ok) Kd.string.sz [s] [.string s] := Reps.one (show Kd.M Kd.string _ _ _ s [.string s] from rfl) (Reps.none _ _)
theorem str_M (s : ByteArray) (W : World) (base : Nat) (ok : Nat → Prop) : Kd.string.M W base ok s [.string s] := rfl
theorem letter_dig (q : Nat) : letter q = dig q := rfl
abbrev rowS (A : Option Addr) (c : Nat) (l : List ByteArray) : As := rw' Kd.string rfl 9 (.slice A l.length c) l
theorem implLetter (q : Nat) (hq : q < 10) (w : World) : Calls Try.prog 142 #[.int .i64 (q : Int)] w fun e w' => e = .returned (.string (letter q)) ∧ Below w.heap.size w w' := by
  have HS := Aside0.mk (Sep.refl w)
  have HW := Aside0.mk (show IntKind.u8.wrap (q : Int) = q from u8_small _ (by omega) (by omega))
  have HW2 := Aside0.mk (show IntKind.u8.wrap (48 + (q : Int)) = 48 + q from u8_small _ (by omega) (by omega))
  have hw := HW.out
  have hw2 := HW2.out
  have hcv := byte_string w (48 + (q : Int))
  go_enter Try.func142, Try.ntmps142
  go_wp2
  go_ret
  exact ⟨ret_str (by rw [dig_str q hq, letter_dig]), (HS.out.call (below_alloc (Below.refl _ _) _)).below⟩
theorem str_at {w : World} {A : Option Addr} {n : Nat} {l : List ByteArray} (h : Kd.string.C w A n l) (i : Nat) (hi : i < n) : ∃ ad, A = some ad ∧ w.cell? (ad.add i) = some (.string (l.getD i ByteArray.empty)) := by
  obtain ⟨ad, c, hA, hl, hK, hc⟩ := Kd.C_get h ByteArray.empty (i : Int) (by omega) (by omega)
  simp only [Int.toNat_natCast] at hc hK
  have hK' : c = [.string (l.getD i ByteArray.empty)] := hK
  subst hK'
  have := hc 0 _ rfl
  refine ⟨ad, hA, ?_⟩
  rwa [show Kd.string.sz = 1 from rfl, Nat.mul_one, Nat.add_zero] at this
set_option maxHeartbeats 8000000 in
theorem implWords (d n : Nat) (w : World) (hd : d ≤ 3) (hn : n ≤ 8) : Calls Try.prog 130 #[.int .i64 (d : Int), .int .i64 (n : Int)] w fun e w' => ∃ A c, e = .returned (.slice A (wordsN d n).length c) ∧ Sep w w' [rowS A c (wordsN d n)] := by
  have HS := Aside0.mk (Sep.refl w)
  go_enter Try.func130, Try.ntmps130
  go_wp2_with (first | ((with_reducible refine gate_dst (N := 10) rfl ?_); refine wpList_stp (fun K hK => ?_); refine stp_lit (Kd.string) rfl 9 (by rfl) HS (xs := ([⟨#[]⟩] : List ByteArray)) (inner := [.string ⟨#[]⟩]) (by first | (go_simp; done) | (go_simp; rfl)) (reps_str _) (by simp) ?_; clear HS; intro A_o c_o w1 HS; refine hK _ _ ?_; clear hK K))
  go_loopw [5, 12] (fun x v w' => ∃ (i : Nat) (A : Option Addr) (c : Nat) (y : List ByteArray), i ≤ n ∧ v = .int .i64 (i : Int) ∧ x = .slice A y.length c ∧ Aside0 (y = wordsN d i) ∧ Aside0 (Mod w w' No [rowS A c y])) (fun _ v _ => n - (intOf v).toNat)
  case atStart => exact ⟨0, A_o, c_o, [⟨#[]⟩], by omega, rfl, rfl, ⟨rfl⟩, HS⟩
  case round =>
    clear HS
    obtain ⟨i, A, c, y, hi, rfl, rfl, HY, HS⟩ := hrel
    by_cases hlt : i < n
    · have hyl : y.length ≤ 6561 := by rw [HY.out]; exact wordsN_le hd (by omega)
      have hys : ∀ j, j < y.length → (y.getD j ByteArray.empty).size ≤ 8 := fun j hj => by rw [HY.out, wordsN_size (n := i) (d := d) (getD_mem (by rw [← HY.out]; exact hj))]; omega
      have HYS := Aside0.mk hys
      clear hys
      go_wp2
      have n_ := Aside0.mk (HS.out.nil (d := Kd.string) (hE := rfl) (e := 9))
      clear HS
      have HS := n_
      clear n_
      go_loopw [6, 16] (fun x v w' => ∃ (j : Nat) (B : Option Addr) (b : Nat) (z : List ByteArray), j ≤ y.length ∧ v = .int .i64 (j : Int) ∧ x = .slice B z.length b ∧ Aside0 (z = nextWords d (y.take j)) ∧ Aside0 (Mod w w' No [rowS B b z, rowS A c y])) (fun _ v _ => y.length - (intOf v).toNat)
      case atStart => exact ⟨0, none, 0, [], by omega, rfl, rfl, ⟨rfl⟩, HS⟩
      case round =>
        clear HS
        obtain ⟨j, B, b, z, hj, rfl, rfl, HZ, HS⟩ := hrel
        by_cases hjl : j < y.length
        · obtain ⟨ad, ea, h0_⟩ := str_at (HS.out.reads 1 rfl) j hjl
          cases ea
          obtain ⟨s, hs⟩ : ∃ s, s = y.getD j ByteArray.empty := ⟨_, rfl⟩
          rw [← hs] at h0_
          have hs8 : s.size ≤ 8 := by rw [hs]; exact HYS.out j hjl
          have ES := Aside0.mk hs
          have H0 := Aside0.mk h0_
          clear hs h0_
          have f1_ := H0.out
          go_wp2
          clear H0
          go_loopw [6, 21] (fun x v w' => ∃ (q : Nat) (B : Option Addr) (b : Nat) (z : List ByteArray), q ≤ d ∧ v = .int .i64 (q : Int) ∧ x = .slice B z.length b ∧ Aside0 (z = makingW d y j q) ∧ Aside0 (Mod w w' No [rowS B b z, rowS (some ad) c y])) (fun _ v _ => d - (intOf v).toNat)
          case atStart => exact ⟨0, B, b, z, by omega, rfl, rfl, ⟨by rw [HZ.out, makingW_zero]⟩, HS⟩
          case round =>
            clear HS HZ
            obtain ⟨q, B, b, z, hq, rfl, rfl, HZ, HS⟩ := hrel
            by_cases hqd : q < d
            · have hzl : z.length ≤ 20000 := by rw [HZ.out]; exact makingW_le hd hyl j q (by omega)
              have hsz : (9223372036854775807 < s.size + (letter q).size) = False := eq_false (Nat.not_lt.2 (by show s.size + 1 ≤ 9223372036854775807; omega))
              go_wp2_with (first | (go_at_call 142; refine (implLetter q (by omega) _).mono ?_; rintro e_ w1 ⟨rfl, hb⟩; replace HS := sB HS hb; clear hb) | ((with_reducible refine gate_builtin (b := .append) (xs := #[.tmp 24, .tmp 29]) rfl ?_); at_builtin; refine wpList_stp (fun K hK => ?_); refine stp_app (Kd.string) rfl (by rfl) HS 0 rfl (.tmp 24) (.tmp 29) 85 9 (.string ⟨#[]⟩) 16 rfl Try.underlying85 infoString (by kernel_rfl) ((s ++ letter q)) [.string (s ++ letter q)] rfl (by first | rfl | (show Value.slice (some ⟨_, 0, none⟩) 1 1 = _; simp)) (str_M _) (by omega) ?_; clear HS; intro A_z' c_z' z' w1 Nz' HS; simp only [List.set_cons_zero, List.set_cons_succ] at HS; refine hK _ _ ?_; clear hK K))
              go_roundw
              case rel => exact ⟨q + 1, A_z', c_z', z', by omega, by go_num, rfl, ⟨by rw [Nz'.out, HZ.out, makingW_next, ← ES.out]⟩, HS⟩
              case measure => simp [intOf]; omega
            · obtain rfl : q = d := by omega
              go_wp2
              go_roundw
              case rel => exact ⟨j + 1, B, b, z, by omega, by go_num, rfl, ⟨by rw [HZ.out, makingW_end _ _ _ hjl]⟩, HS⟩
              case measure => simp [intOf]; omega
        · obtain rfl : j = y.length := by omega
          go_wp2
          replace HS : Aside0 (Mod _ _ _ [_]) := sX HS [0]
          go_roundw
          case rel => exact ⟨i + 1, B, b, z, by omega, by go_num, rfl, ⟨by rw [HZ.out, List.take_length, HY.out]; rfl⟩, HS⟩
          case measure => simp [intOf]; omega
    · obtain rfl : i = n := by omega
      go_wp2
      go_ret
      obtain rfl := HY.out
      exact ⟨A, c, rfl, HS.out⟩
set_option maxHeartbeats 8000000 in
theorem implAllWords (d n : Nat) (w : World) (hd : d ≤ 3) (hn : n ≤ 5) : Calls Try.prog 115 #[.int .i64 (d : Int), .int .i64 (n : Int)] w fun e w' => ∃ A c, e = .returned (.slice A (allW d n).length c) ∧ Sep w w' [rowS A c (allW d n)] := by
  have HS := Aside0.mk ((Sep.refl w).nil (d := Kd.string) (hE := rfl) (e := 9))
  go_enter Try.func115, Try.ntmps115
  go_wp2
  go_loopw [5, 9] (fun x v w' => ∃ (i : Nat) (A : Option Addr) (c : Nat) (y : List ByteArray), i ≤ n + 1 ∧ v = .int .i64 (i : Int) ∧ x = .slice A y.length c ∧ Aside0 (y = allU d i) ∧ Aside0 (Mod w w' No [rowS A c y])) (fun _ v _ => n + 1 - (intOf v).toNat)
  case atStart => exact ⟨0, none, 0, [], by omega, rfl, rfl, ⟨rfl⟩, HS⟩
  case round =>
    clear HS
    obtain ⟨i, A, c, y, hi, rfl, rfl, HY, HS⟩ := hrel
    by_cases hlt : i < n + 1
    · have hyl : y.length ≤ 10000 := by rw [HY.out, allU_length]; exact ahead_le hd (by omega)
      have hwl : (wordsN d i).length ≤ 6561 := wordsN_le hd (by omega)
      go_wp2_with (first | (go_at_call 130; refine (implWords d i _ hd (by omega)).mono ?_; rintro e_ w1 ⟨B, b, rfl, hs⟩; replace HS := sN1 HS hs; clear hs) | ((with_reducible refine gate_builtin (b := .append) (xs := #[.tmp 12, .tmp 15]) rfl ?_); at_builtin; refine wpList_stp (fun K hK => ?_); refine stp_rows (Kd.string) rfl (fun _ _ _ _ _ h => h) (by rfl) HS 1 rfl (.tmp 12) (.tmp 15) 85 _ 16 rfl Try.underlying85 infoString (by kernel_rfl) (wordsN d i) rfl rfl (HS.out.reads 0 rfl) (by omega) ?_; clear HS; intro A_y' c_y' y' w1 Ny' HS; simp only [List.set_cons_zero, List.set_cons_succ] at HS; refine hK _ _ ?_; clear hK K))
      replace HS : Aside0 (Mod _ _ _ [_]) := sX HS [1]
      go_roundw
      case rel => exact ⟨i + 1, A_y', c_y', y', by omega, by go_num, rfl, ⟨by rw [Ny'.out, HY.out, allU_succ]⟩, HS⟩
      case measure => simp [intOf]; omega
    · obtain rfl : i = n + 1 := by omega
      go_wp2
      go_ret
      obtain rfl := HY.out
      exact ⟨A, c, rfl, HS.out⟩
theorem take_snoc (s : ByteArray) (k : Nat) (h : k < s.size) : (bl s).take (k + 1) = (bl s).take k ++ [s[k]] := by
  unfold bl
  rw [List.take_succ_eq_append_getElem (by simpa using h)]; rfl
theorem isWd_at {d : Nat} {s : ByteArray} (h : isWd d s = true) (k : Nat) (hk : k < s.size) : 48 ≤ s[k].toNat ∧ s[k].toNat < 48 + d := isWd_iff.1 h k hk
theorem valL_take_lt {d : Nat} {s : ByteArray} (h : isWd d s = true) (k : Nat) (hk : k ≤ s.size) : valL d ((bl s).take k) < d ^ k := by
  refine valL_lt (by rw [List.length_take, bl_len]; omega) ?_
  unfold isWd isWL at *
  exact List.all_eq_true.2 fun c hc => List.all_eq_true.1 h c (List.mem_of_mem_take hc)
theorem pow_le_243 {d k : Nat} (hd : d ≤ 3) (hk : k ≤ 5) : d ^ k ≤ 243 := Nat.le_trans (Nat.pow_le_pow_left hd k) (Nat.pow_le_pow_right (n := 3) (by omega) hk)
set_option maxHeartbeats 8000000 in
theorem implNumber1 (s : ByteArray) (w : World) (hw : isWd 1 s = true) (hs : s.size ≤ 5) : Calls Try.prog 97 #[.int .i64 1, .string s] w fun e w' => e = .returned (.int .i64 ((num 1 s : Nat) : Int)) ∧ Below w.heap.size w w' := by
  have HW := Aside0.mk hw
  clear hw
  go_enter Try.func97, Try.ntmps97
  go_wp2
  go_loop [5, 6, 7, 11] (fun x y z v => ∃ k a b m : Nat, k ≤ s.size ∧ v = .int .i64 (k : Int) ∧ x = .int .i64 (a : Int) ∧ y = .int .i64 (b : Int) ∧ z = .int .i64 (m : Int) ∧ Hid (a = M.ahead 1 k) ∧ Hid (b = valL 1 ((bl s).take k)) ∧ Hid (m = 1 ^ k)) (fun _ _ _ v => s.size - (intOf v).toNat)
  case atStart => exact ⟨0, 0, 0, 1, by omega, rfl, rfl, rfl, rfl, rfl, rfl, rfl⟩
  case round =>
    obtain ⟨k, a, b, m, hk, rfl, rfl, rfl, rfl, HA, HV, HM⟩ := hrel
    have ha : a ≤ 10000 := by rw [HA.out]; exact ahead_le (by omega) (by omega)
    have hm : m ≤ 243 := by rw [HM.out]; exact pow_le_243 (by omega) (by omega)
    have hb : b < m := by rw [HV.out, HM.out]; exact valL_take_lt HW.out k hk
    by_cases hlt : k < s.size
    · obtain ⟨c, hc⟩ : ∃ c : Int, ∀ h : k < s.size, ((s[k]'h).toNat : Int) = c := ⟨((s[k]'hlt).toNat : Int), fun _ => rfl⟩
      obtain ⟨h1, h2⟩ := isWd_at HW.out k hlt
      obtain ⟨q, hq⟩ : ∃ q : Nat, c = 48 + (q : Int) := ⟨(s[k]'hlt).toNat - 48, by rw [← hc hlt]; omega⟩
      have HQ := Aside0.mk (show s[k].toNat - 48 = q by have := hc hlt; omega)
      have hq3 : q < 1 := by have := HQ.out; omega
      subst hq
      clear h1 h2
      have hu : IntKind.u8.wrap (48 + (q : Int) - 48) = q := IntWalk.u8_in _ ⟨by omega, by omega⟩ |>.trans (by omega)
      have hu2 : IntKind.u8.wrap (q : Int) = q := IntWalk.u8_in _ ⟨by omega, by omega⟩
      have HA2 := Lib.hid (show a + m = M.ahead 1 (k + 1) by rw [M.ahead, HA.out, HM.out])
      have HM2 := Lib.hid (show m * 1 = 1 ^ (k + 1) by rw [Nat.pow_succ, HM.out])
      have HV2 := Lib.hid (show b * 1 + q = valL 1 ((bl s).take (k + 1)) by rw [take_snoc s k hlt, valL_snoc, ← HV.out, HQ.out])
      go_wp2
      go_round
      case rel => exact ⟨k + 1, a + m, b * 1 + q, m * 1, by omega, by go_num, by go_num, by first | go_num | (congr 1; omega), by first | go_num | (congr 1; omega), HA2, HV2, HM2⟩
      case measure => simp [intOf]; omega
    · obtain rfl : k = s.size := by omega
      have HE := Lib.hid (show num 1 s = a + b by rw [num, HA.out, HV.out, List.take_of_length_le (by rw [bl_len]; omega)])
      go_wp2
      go_ret
      exact ⟨ret_int (by rw [HE.out]; omega), Below.refl _ _⟩
set_option maxHeartbeats 8000000 in
theorem implNumber2 (s : ByteArray) (w : World) (hw : isWd 2 s = true) (hs : s.size ≤ 5) : Calls Try.prog 97 #[.int .i64 2, .string s] w fun e w' => e = .returned (.int .i64 ((num 2 s : Nat) : Int)) ∧ Below w.heap.size w w' := by
  have HW := Aside0.mk hw
  clear hw
  go_enter Try.func97, Try.ntmps97
  go_wp2
  go_loop [5, 6, 7, 11] (fun x y z v => ∃ k a b m : Nat, k ≤ s.size ∧ v = .int .i64 (k : Int) ∧ x = .int .i64 (a : Int) ∧ y = .int .i64 (b : Int) ∧ z = .int .i64 (m : Int) ∧ Hid (a = M.ahead 2 k) ∧ Hid (b = valL 2 ((bl s).take k)) ∧ Hid (m = 2 ^ k)) (fun _ _ _ v => s.size - (intOf v).toNat)
  case atStart => exact ⟨0, 0, 0, 1, by omega, rfl, rfl, rfl, rfl, rfl, rfl, rfl⟩
  case round =>
    obtain ⟨k, a, b, m, hk, rfl, rfl, rfl, rfl, HA, HV, HM⟩ := hrel
    have ha : a ≤ 10000 := by rw [HA.out]; exact ahead_le (by omega) (by omega)
    have hm : m ≤ 243 := by rw [HM.out]; exact pow_le_243 (by omega) (by omega)
    have hb : b < m := by rw [HV.out, HM.out]; exact valL_take_lt HW.out k hk
    by_cases hlt : k < s.size
    · obtain ⟨c, hc⟩ : ∃ c : Int, ∀ h : k < s.size, ((s[k]'h).toNat : Int) = c := ⟨((s[k]'hlt).toNat : Int), fun _ => rfl⟩
      obtain ⟨h1, h2⟩ := isWd_at HW.out k hlt
      obtain ⟨q, hq⟩ : ∃ q : Nat, c = 48 + (q : Int) := ⟨(s[k]'hlt).toNat - 48, by rw [← hc hlt]; omega⟩
      have HQ := Aside0.mk (show s[k].toNat - 48 = q by have := hc hlt; omega)
      have hq3 : q < 2 := by have := HQ.out; omega
      subst hq
      clear h1 h2
      have hu : IntKind.u8.wrap (48 + (q : Int) - 48) = q := IntWalk.u8_in _ ⟨by omega, by omega⟩ |>.trans (by omega)
      have hu2 : IntKind.u8.wrap (q : Int) = q := IntWalk.u8_in _ ⟨by omega, by omega⟩
      have HA2 := Lib.hid (show a + m = M.ahead 2 (k + 1) by rw [M.ahead, HA.out, HM.out])
      have HM2 := Lib.hid (show m * 2 = 2 ^ (k + 1) by rw [Nat.pow_succ, HM.out])
      have HV2 := Lib.hid (show b * 2 + q = valL 2 ((bl s).take (k + 1)) by rw [take_snoc s k hlt, valL_snoc, ← HV.out, HQ.out])
      go_wp2
      go_round
      case rel => exact ⟨k + 1, a + m, b * 2 + q, m * 2, by omega, by go_num, by go_num, by first | go_num | (congr 1; omega), by first | go_num | (congr 1; omega), HA2, HV2, HM2⟩
      case measure => simp [intOf]; omega
    · obtain rfl : k = s.size := by omega
      have HE := Lib.hid (show num 2 s = a + b by rw [num, HA.out, HV.out, List.take_of_length_le (by rw [bl_len]; omega)])
      go_wp2
      go_ret
      exact ⟨ret_int (by rw [HE.out]; omega), Below.refl _ _⟩
set_option maxHeartbeats 8000000 in
theorem implNumber3 (s : ByteArray) (w : World) (hw : isWd 3 s = true) (hs : s.size ≤ 5) : Calls Try.prog 97 #[.int .i64 3, .string s] w fun e w' => e = .returned (.int .i64 ((num 3 s : Nat) : Int)) ∧ Below w.heap.size w w' := by
  have HW := Aside0.mk hw
  clear hw
  go_enter Try.func97, Try.ntmps97
  go_wp2
  go_loop [5, 6, 7, 11] (fun x y z v => ∃ k a b m : Nat, k ≤ s.size ∧ v = .int .i64 (k : Int) ∧ x = .int .i64 (a : Int) ∧ y = .int .i64 (b : Int) ∧ z = .int .i64 (m : Int) ∧ Hid (a = M.ahead 3 k) ∧ Hid (b = valL 3 ((bl s).take k)) ∧ Hid (m = 3 ^ k)) (fun _ _ _ v => s.size - (intOf v).toNat)
  case atStart => exact ⟨0, 0, 0, 1, by omega, rfl, rfl, rfl, rfl, rfl, rfl, rfl⟩
  case round =>
    obtain ⟨k, a, b, m, hk, rfl, rfl, rfl, rfl, HA, HV, HM⟩ := hrel
    have ha : a ≤ 10000 := by rw [HA.out]; exact ahead_le (by omega) (by omega)
    have hm : m ≤ 243 := by rw [HM.out]; exact pow_le_243 (by omega) (by omega)
    have hb : b < m := by rw [HV.out, HM.out]; exact valL_take_lt HW.out k hk
    by_cases hlt : k < s.size
    · obtain ⟨c, hc⟩ : ∃ c : Int, ∀ h : k < s.size, ((s[k]'h).toNat : Int) = c := ⟨((s[k]'hlt).toNat : Int), fun _ => rfl⟩
      obtain ⟨h1, h2⟩ := isWd_at HW.out k hlt
      obtain ⟨q, hq⟩ : ∃ q : Nat, c = 48 + (q : Int) := ⟨(s[k]'hlt).toNat - 48, by rw [← hc hlt]; omega⟩
      have HQ := Aside0.mk (show s[k].toNat - 48 = q by have := hc hlt; omega)
      have hq3 : q < 3 := by have := HQ.out; omega
      subst hq
      clear h1 h2
      have hu : IntKind.u8.wrap (48 + (q : Int) - 48) = q := IntWalk.u8_in _ ⟨by omega, by omega⟩ |>.trans (by omega)
      have hu2 : IntKind.u8.wrap (q : Int) = q := IntWalk.u8_in _ ⟨by omega, by omega⟩
      have HA2 := Lib.hid (show a + m = M.ahead 3 (k + 1) by rw [M.ahead, HA.out, HM.out])
      have HM2 := Lib.hid (show m * 3 = 3 ^ (k + 1) by rw [Nat.pow_succ, HM.out])
      have HV2 := Lib.hid (show b * 3 + q = valL 3 ((bl s).take (k + 1)) by rw [take_snoc s k hlt, valL_snoc, ← HV.out, HQ.out])
      go_wp2
      go_round
      case rel => exact ⟨k + 1, a + m, b * 3 + q, m * 3, by omega, by go_num, by go_num, by first | go_num | (congr 1; omega), by first | go_num | (congr 1; omega), HA2, HV2, HM2⟩
      case measure => simp [intOf]; omega
    · obtain rfl : k = s.size := by omega
      have HE := Lib.hid (show num 3 s = a + b by rw [num, HA.out, HV.out, List.take_of_length_le (by rw [bl_len]; omega)])
      go_wp2
      go_ret
      exact ⟨ret_int (by rw [HE.out]; omega), Below.refl _ _⟩
theorem implNumber (d : Nat) (s : ByteArray) (w : World) (h1 : 1 ≤ d) (h3 : d ≤ 3) (hw : isWd d s = true) (hs : s.size ≤ 5) : Calls Try.prog 97 #[.int .i64 (d : Int), .string s] w fun e w' => e = .returned (.int .i64 ((num d s : Nat) : Int)) ∧ Below w.heap.size w w' := by
  obtain rfl | rfl | rfl : d = 1 ∨ d = 2 ∨ d = 3 := by omega
  · exact implNumber1 s w hw hs
  · exact implNumber2 s w hw hs
  · exact implNumber3 s w hw hs
end Go.Proofs.Ytibjkjhpfmmjoaa.H



