/- Plain words for the walks. Conditions: none. -/
import Derived.Test.YtaheikponfmdiaaKBase
import Derived.Deep.RegionWith
/- What the reference's functions on fractions return: proved by walking their code. Conditions: the bounds that stand in each statement. -/
namespace Go.Proofs.Ytaheikponfmdiaa.H
open Go.RowKit Go.Proofs.YtaheikponfmdiaaW.PrintWords Go.Proofs.YtaheikponfmdiaaW.PrintLast Go.Proofs.YtaheikponfmdiaaW.PrintMore Go.Proofs.Ytaheikponfmdiaa.M
attribute [local go_sem] max2_int min2_int max_two min_two max_three min_three max_four min_four
set_option linter.unusedVariables false
set_option linter.unusedSimpArgs false

theorem specIn (a b c : Int) (w : World) : Calls Try.prog 115 #[.int .i64 a, .int .i64 b, .int .i64 c] w fun e w' => e = .returned (.bool (inR a b c)) ∧ ∃ n, w' = w.drewN n := by
  by_cases h : b ≤ a
  · go_enter Try.func115, Try.ntmps115
    go_wp2
    go_ret
    exact ⟨ret_bool (by simp [inR, h]), 0, rfl⟩
  · go_enter Try.func115, Try.ntmps115
    go_wp2
    go_ret
    exact ⟨ret_bool (by simp [inR]; omega), 0, rfl⟩

theorem specGcd (a b : Int) (w : World) (ha : -9223372036854775807 ≤ a) (ha' : a ≤ 9223372036854775807) (hb : -9223372036854775807 ≤ b) (hb' : b ≤ 9223372036854775807) :
    Calls Try.prog 188 #[.int .i64 a, .int .i64 b] w fun e w' => e = .returned (.int .i64 (Int.gcd a b)) ∧ w = w' := by
  go_enter Try.func188, Try.ntmps188
  go_wp2
  go_loop [0, 1] (fun x y => ∃ p q : Int, x = .int .i64 p ∧ y = .int .i64 q ∧ Hid (Int.gcd p q = Int.gcd a b) ∧ -9223372036854775807 ≤ p ∧ p ≤ 9223372036854775807 ∧ -9223372036854775807 ≤ q ∧ q ≤ 9223372036854775807) (fun _ y => (intOf y).natAbs)
  case atStart => exact ⟨a, b, rfl, rfl, rfl, ha, ha', hb, hb'⟩
  case round =>
    clear ha ha' hb hb'
    obtain ⟨p, q, rfl, rfl, hg, hp, hp', hq, hq'⟩ := hrel
    by_cases h : q = 0
    · have h1 : (q == 0) = true := by simpa using h
      have h2 : (q != 0) = false := by simpa using h
      have hfin : (if p < -p then -p else p) = (Int.gcd a b : Int) := by
        rw [← hg.out, h, Int.gcd_zero_right]; split <;> omega
      clear hg h
      go_wp2
      go_ret
      exact ⟨rfl, rfl⟩
    · have h1 : (q == 0) = false := by simpa using h
      have h2 : (q != 0) = true := by simpa using h
      have hm := tmod_lt (a := p) h
      have hm' := tmod_le p q
      have hg' : Hid (Int.gcd q (p.tmod q) = Int.gcd a b) := by rw [Hid, gcd_tmod]; exact hg
      go_wp2
      go_round
      case rel => exact ⟨q, p.tmod q, rfl, rfl, hg', hq, hq', by omega, by omega⟩
      case measure => exact hm

theorem specIsFrac (a b : Int) (w : World) : Calls Try.prog 159 #[.agg #[.int .i64 a, .int .i64 b]] w fun e w' => e = .returned (.bool (isFr a b)) ∧ Below w.heap.size w w' := by
  cases h1 : inR b 1 1000000000 with
  | false =>
    have hf := Lib.hid (show isFr a b = false by simp [isFr, h1])
    go_enter Try.func159, Try.ntmps159
    go_wp2_with (first | (go_at_call 115; refine (specIn _ _ _ _).mono ?_; rintro e w1 ⟨rfl, n, rfl⟩))
    go_ret
    exact ⟨ret_bool hf.out.symm, pw_below_drewN ((Below.refl _ _).alloc (Nat.le_refl _) _) _⟩
  | true =>
    cases h2 : inR a (-1000000000) 1000000000 with
    | false =>
      have hf := Lib.hid (show isFr a b = false by simp [isFr, h1, h2])
      go_enter Try.func159, Try.ntmps159
      go_wp2_with (first | (go_at_call 115; refine (specIn _ _ _ _).mono ?_; rintro e w1 ⟨rfl, n, rfl⟩))
      go_ret
      exact ⟨ret_bool hf.out.symm, pw_below_drewN ((Below.refl _ _).alloc (Nat.le_refl _) _) _⟩
    | true =>
      have hf := Lib.hid (show isFr a b = ((Int.gcd a b : Int) == 1) by simp [isFr, h1, h2]; rfl)
      obtain ⟨k11, k12⟩ := (inR_iff _ _ _).1 h1
      obtain ⟨k21, k22⟩ := (inR_iff _ _ _).1 h2
      go_enter Try.func159, Try.ntmps159
      go_wp2_with (first | (go_at_call 115; refine (specIn _ _ _ _).mono ?_; rintro e w1 ⟨rfl, n, rfl⟩) | (go_at_call 188; refine (specGcd _ _ _ (by omega) (by omega) (by omega) (by omega)).mono ?_; rintro e w1 ⟨rfl, rfl⟩))
      go_ret
      exact ⟨ret_bool hf.out.symm, pw_below_drewN ((Below.refl _ _).alloc (Nat.le_refl _) _) _⟩

theorem specFrac (a b : Int) (w : World) (ha : -9223372036854775807 ≤ a) (ha' : a ≤ 9223372036854775807) (hb : -9223372036854775807 ≤ b) (hb' : b ≤ 9223372036854775807) :
    Calls Try.prog 189 #[.int .i64 a, .int .i64 b] w fun e w' =>
      e = .returned (.tuple #[.agg #[.int .i64 (sfrac (frac a b)).1.1, .int .i64 (sfrac (frac a b)).1.2], .bool (sfrac (frac a b)).2]) ∧ Below w.heap.size w w' := by
  by_cases h0 : b = 0
  · have hf := Lib.hid (show frac a b = none by rw [h0, frac_zero])
    have h1 : (b == 0) = true := by simpa using h0
    clear h0
    go_enter Try.func189, Try.ntmps189
    go_wp2
    refine bodyPost_ret (v := .tuple #[.agg #[.int .i64 0, .int .i64 0], .bool false]) (by simp [results, Try.results189, go_sem]) rfl ⟨by rw [hf.out]; rfl, ?_⟩
    exact (Below.refl _ _).alloc (Nat.le_refl _) _
  · have h1 : (b == 0) = false := by simpa using h0
    have hs := sgd_ne (a := a) h0
    have hs1 : (sgd a b == 0) = false := by simpa using hs
    have hg := gcd_pos (a := a) h0
    have hl := gcd_le (a := a) h0
    have hn := rnum_abs a b
    have hd := rden_abs a b
    have hwn : wrap64 (a.tdiv (sgd a b)) = a.tdiv (sgd a b) := by have : (a.tdiv (sgd a b)).natAbs ≤ a.natAbs := hn; unfold wrap64; omega
    have hwd : wrap64 (b.tdiv (sgd a b)) = b.tdiv (sgd a b) := by have : (b.tdiv (sgd a b)).natAbs ≤ b.natAbs := hd; unfold wrap64; omega
    have hwn' : IntKind.i64.wrap (a.tdiv (sgd a b)) = a.tdiv (sgd a b) := (i64_w _).trans hwn
    have hwd' : IntKind.i64.wrap (b.tdiv (sgd a b)) = b.tdiv (sgd a b) := (i64_w _).trans hwd
    have hko := Lib.hid (show okN a b = isFr (a.tdiv (sgd a b)) (b.tdiv (sgd a b)) from rfl)
    have hfr := Lib.hid (frac_ok (a := a) (b := b) h0)
    have hfb := Lib.hid (frac_bad (a := a) (b := b))
    have hrn := Lib.hid (show rnum a b = a.tdiv (sgd a b) from rfl)
    have hrd := Lib.hid (show rden a b = b.tdiv (sgd a b) from rfl)
    have hsg : b < 0 ∧ Hid (-(Int.gcd a b : Int) = sgd a b) ∨ ¬ b < 0 ∧ Hid ((Int.gcd a b : Int) = sgd a b) := by
      unfold sgd Hid; by_cases hneg : b < 0 <;> simp [hneg]
    rcases hsg with ⟨hneg, hsg⟩ | ⟨hneg, hsg⟩
    all_goals
      go_enter Try.func189, Try.ntmps189
      go_wp2_with (first | (go_at_call 188; refine (specGcd _ _ _ ha ha' hb hb').mono ?_; rintro e w1 ⟨rfl, rfl⟩))
      clear hg hl hn hd
      rw [hsg.out]
      clear hsg
      generalize sgd a b = d at *
      go_region
      go_wp2_with (first | (go_at_call 159; refine (specIsFrac _ _ _).mono ?_; rintro e w1 ⟨rfl, hb1⟩; obtain ⟨hc1, hf1⟩ := bcell hb1; have HB := Lib.hid (below_pair (w := w) (by repeat (first | exact Below.refl _ _ | (with_reducible assumption) | exact HB.out | apply below_alloc | apply pw_below_drewN | apply below_drew | refine below_set ?_ (by first | omega | (simp; done) | (simp; omega)) | assumption)) hb1); have hx0 : w1.cell? ⟨w.heap.size, 0, none⟩ = some (.int .i64 0) := (hc1 _ _ (by simp; omega)).trans (by simp); have hx1 : w1.cell? ⟨w.heap.size, 1, none⟩ = some (.int .i64 0) := (hc1 _ _ (by simp; omega)).trans (by simp); clear hb1))
      · rename_i hbad
        have hno : frac a b = none := hfb.out (by rw [hko.out]; simpa using hbad)
        exact bodyPost_ret (v := .tuple #[.agg #[.int .i64 0, .int .i64 0], .bool false]) (by simp [results, Try.results189, go_sem, hx0, hx1]) rfl ⟨by rw [hno]; rfl, by repeat (first | exact Below.refl _ _ | (with_reducible assumption) | exact HB.out | apply below_alloc | apply pw_below_drewN | apply below_drew | refine below_set ?_ (by first | omega | (simp; done) | (simp; omega)) | assumption)⟩
      · rename_i hgood
        have hyes : frac a b = some (a.tdiv d, b.tdiv d) := by rw [hfr.out (by rw [hko.out]; simpa using hgood), hrn.out, hrd.out]
        exact bodyPost_ret (v := .tuple #[.agg #[.int .i64 (a.tdiv d), .int .i64 (b.tdiv d)], .bool true]) (by simp [results, Try.results189, go_sem, hx0, hx1]) rfl ⟨by rw [hyes]; rfl, by repeat (first | exact Below.refl _ _ | (with_reducible assumption) | exact HB.out | apply below_alloc | apply pw_below_drewN | apply below_drew | refine below_set ?_ (by first | omega | (simp; done) | (simp; omega)) | assumption)⟩

theorem specTold (c d : Int) (ok : Bool) (w : World) : Calls Try.prog 95 #[.agg #[.int .i64 c, .int .i64 d], .bool ok] w fun e w' =>
    e = .returned (.tuple #[.agg #[.int .i64 (told (if ok = true then some (c, d) else none)).1.1, .int .i64 (told (if ok = true then some (c, d) else none)).1.2], .int .i64 (told (if ok = true then some (c, d) else none)).2]) ∧ Below w.heap.size w w' := by
  cases ok with
  | false =>
    go_enter Try.func95, Try.ntmps95
    go_wp2
    exact bodyPost_ret (v := .tuple #[.agg #[.int .i64 0, .int .i64 0], .int .i64 3]) (by simp [results, Try.results95, go_sem]) rfl ⟨rfl, by repeat (first | exact Below.refl _ _ | (with_reducible assumption) | exact HB.out | apply below_alloc | apply pw_below_drewN | apply below_drew | refine below_set ?_ (by first | omega | (simp; done) | (simp; omega)) | assumption)⟩
  | true =>
    go_enter Try.func95, Try.ntmps95
    go_wp2
    exact bodyPost_ret (v := .tuple #[.agg #[.int .i64 c, .int .i64 d], .int .i64 0]) (by simp [results, Try.results95, go_sem]) rfl ⟨rfl, by repeat (first | exact Below.refl _ _ | (with_reducible assumption) | exact HB.out | apply below_alloc | apply pw_below_drewN | apply below_drew | refine below_set ?_ (by first | omega | (simp; done) | (simp; omega)) | assumption)⟩

theorem specToldS (o : Option Fr) (w : World) : Calls Try.prog 95 #[.agg #[.int .i64 (sfrac o).1.1, .int .i64 (sfrac o).1.2], .bool (sfrac o).2] w fun e w' =>
    e = .returned (.tuple #[.agg #[.int .i64 (told o).1.1, .int .i64 (told o).1.2], .int .i64 (told o).2]) ∧ Below w.heap.size w w' := by
  have h := specTold (sfrac o).1.1 (sfrac o).1.2 (sfrac o).2 w
  rw [told_sfrac] at h
  exact h
theorem specTimes (a1 a2 b1 b2 : Int) (w : World) (ha : small (a1, a2)) (hb : small (b1, b2)) : Calls Try.prog 161 #[.agg #[.int .i64 a1, .int .i64 a2], .agg #[.int .i64 b1, .int .i64 b2]] w fun e w' =>
    e = .returned (.tuple #[.agg #[.int .i64 (sfrac (mul (a1, a2) (b1, b2))).1.1, .int .i64 (sfrac (mul (a1, a2) (b1, b2))).1.2], .bool (sfrac (mul (a1, a2) (b1, b2))).2]) ∧ Below w.heap.size w w' := by
  unfold small at ha hb
  obtain ⟨x1, x2, x3, x4⟩ := ha
  obtain ⟨y1, y2, y3, y4⟩ := hb
  obtain ⟨n0, m0⟩ := small_mul (a := a1) (b := b1) ⟨x1, x2⟩ ⟨y1, y2⟩
  have hw0 : wrap64 (a1 * b1) = a1 * b1 := wrap_id (by omega) (by omega)
  have hv0 : IntKind.i64.wrap (a1 * b1) = a1 * b1 := (i64_w _).trans hw0
  obtain ⟨n1, m1⟩ := small_mul (a := a2) (b := b2) ⟨x3, x4⟩ ⟨y3, y4⟩
  have hw1 : wrap64 (a2 * b2) = a2 * b2 := wrap_id (by omega) (by omega)
  have hv1 : IntKind.i64.wrap (a2 * b2) = a2 * b2 := (i64_w _).trans hw1
  have hm := Lib.hid (show mul (a1, a2) (b1, b2) = frac (a1 * b1) (a2 * b2) from rfl)
  clear x1 x2 x3 x4 y1 y2 y3 y4
  go_enter Try.func161, Try.ntmps161
  go_wp2_with (first | (go_at_call 189; refine (specFrac _ _ _ (by omega) (by omega) (by omega) (by omega)).mono ?_; rintro e w1 ⟨rfl, hb1⟩; obtain ⟨hc1, hf1⟩ := bcell hb1; have hz1 := hb1.size; (try simp at hz1); (try have hy0 := Nat.lt_of_succ_le hz1); (try have hy1 := Nat.lt_of_succ_lt hy0); (try have hy2 := Nat.lt_of_succ_lt hy1); (try have hy3 := Nat.lt_of_succ_lt hy2); (try have hv0 : w.heap.size < w1.heap.size := by omega); (try have hv1 : w.heap.size + 1 < w1.heap.size := by omega); (try have hv2 : w.heap.size + 1 + 1 < w1.heap.size := by omega); have HB := Lib.hid (below_pair (w := w) (by repeat (first | exact Below.refl _ _ | (with_reducible assumption) | exact HB.out | apply below_alloc | apply pw_below_drewN | apply below_drew | refine below_set ?_ (by first | omega | (simp; done) | (simp; omega)) | assumption)) hb1); clear hb1))
  exact bodyPost_ret (v := .tuple #[.agg #[.int .i64 (sfrac (frac (a1 * b1) (a2 * b2))).1.1, .int .i64 (sfrac (frac (a1 * b1) (a2 * b2))).1.2], .bool (sfrac (frac (a1 * b1) (a2 * b2))).2]) (by simp only [results, Try.results161]; go_simp) rfl ⟨by rw [hm.out], by repeat (first | exact Below.refl _ _ | (with_reducible assumption) | exact HB.out | apply below_alloc | apply pw_below_drewN | apply below_drew | refine below_set ?_ (by first | omega | (simp; done) | (simp; omega)) | assumption)⟩

theorem specPlus (a1 a2 b1 b2 : Int) (w : World) (ha : small (a1, a2)) (hb : small (b1, b2)) : Calls Try.prog 162 #[.agg #[.int .i64 a1, .int .i64 a2], .agg #[.int .i64 b1, .int .i64 b2]] w fun e w' =>
    e = .returned (.tuple #[.agg #[.int .i64 (sfrac (add (a1, a2) (b1, b2))).1.1, .int .i64 (sfrac (add (a1, a2) (b1, b2))).1.2], .bool (sfrac (add (a1, a2) (b1, b2))).2]) ∧ Below w.heap.size w w' := by
  unfold small at ha hb
  obtain ⟨x1, x2, x3, x4⟩ := ha
  obtain ⟨y1, y2, y3, y4⟩ := hb
  obtain ⟨n0, m0⟩ := small_mul (a := a1) (b := b2) ⟨x1, x2⟩ ⟨y3, y4⟩
  have hw0 : wrap64 (a1 * b2) = a1 * b2 := wrap_id (by omega) (by omega)
  have hv0 : IntKind.i64.wrap (a1 * b2) = a1 * b2 := (i64_w _).trans hw0
  obtain ⟨n1, m1⟩ := small_mul (a := b1) (b := a2) ⟨y1, y2⟩ ⟨x3, x4⟩
  have hw1 : wrap64 (b1 * a2) = b1 * a2 := wrap_id (by omega) (by omega)
  have hv1 : IntKind.i64.wrap (b1 * a2) = b1 * a2 := (i64_w _).trans hw1
  obtain ⟨n2, m2⟩ := small_mul (a := a2) (b := b2) ⟨x3, x4⟩ ⟨y3, y4⟩
  have hw2 : wrap64 (a2 * b2) = a2 * b2 := wrap_id (by omega) (by omega)
  have hv2 : IntKind.i64.wrap (a2 * b2) = a2 * b2 := (i64_w _).trans hw2
  have hm := Lib.hid (show add (a1, a2) (b1, b2) = frac (a1 * b2 + b1 * a2) (a2 * b2) from rfl)
  clear x1 x2 x3 x4 y1 y2 y3 y4
  go_enter Try.func162, Try.ntmps162
  go_wp2_with (first | (go_at_call 189; refine (specFrac _ _ _ (by omega) (by omega) (by omega) (by omega)).mono ?_; rintro e w1 ⟨rfl, hb1⟩; obtain ⟨hc1, hf1⟩ := bcell hb1; have hz1 := hb1.size; (try simp at hz1); (try have hy0 := Nat.lt_of_succ_le hz1); (try have hy1 := Nat.lt_of_succ_lt hy0); (try have hy2 := Nat.lt_of_succ_lt hy1); (try have hy3 := Nat.lt_of_succ_lt hy2); (try have hv0 : w.heap.size < w1.heap.size := by omega); (try have hv1 : w.heap.size + 1 < w1.heap.size := by omega); (try have hv2 : w.heap.size + 1 + 1 < w1.heap.size := by omega); have HB := Lib.hid (below_pair (w := w) (by repeat (first | exact Below.refl _ _ | (with_reducible assumption) | exact HB.out | apply below_alloc | apply pw_below_drewN | apply below_drew | refine below_set ?_ (by first | omega | (simp; done) | (simp; omega)) | assumption)) hb1); clear hb1))
  exact bodyPost_ret (v := .tuple #[.agg #[.int .i64 (sfrac (frac (a1 * b2 + b1 * a2) (a2 * b2))).1.1, .int .i64 (sfrac (frac (a1 * b2 + b1 * a2) (a2 * b2))).1.2], .bool (sfrac (frac (a1 * b2 + b1 * a2) (a2 * b2))).2]) (by simp only [results, Try.results162]; go_simp) rfl ⟨by rw [hm.out], by repeat (first | exact Below.refl _ _ | (with_reducible assumption) | exact HB.out | apply below_alloc | apply pw_below_drewN | apply below_drew | refine below_set ?_ (by first | omega | (simp; done) | (simp; omega)) | assumption)⟩

theorem specZero (a b : Int) (w : World) : Calls Try.prog 102 #[.agg #[.int .i64 a, .int .i64 b]] w fun e w' => e = .returned (.bool (a == 0)) ∧ Below w.heap.size w w' := by
  go_enter Try.func102, Try.ntmps102
  go_wp2
  go_ret
  exact ⟨rfl, by repeat (first | exact Below.refl _ _ | (with_reducible assumption) | exact HB.out | apply below_alloc | apply pw_below_drewN | apply below_drew | refine below_set ?_ (by first | omega | (simp; done) | (simp; omega)) | assumption)⟩
end Go.Proofs.Ytaheikponfmdiaa.H

/- What the program's functions on fractions return: proved by walking their code. Conditions: the bounds that stand in each statement. -/
namespace Go.Proofs.Ytaheikponfmdiaa.H
open Go.RowKit Go.Proofs.YtaheikponfmdiaaW.PrintWords Go.Proofs.YtaheikponfmdiaaW.PrintLast Go.Proofs.YtaheikponfmdiaaW.PrintMore Go.Proofs.Ytaheikponfmdiaa.M
attribute [local go_sem] max2_int min2_int max_two min_two max_three min_three max_four min_four
set_option linter.unusedVariables false
set_option linter.unusedSimpArgs false

theorem implIn (a b c : Int) (w : World) : Calls Try.prog 117 #[.int .i64 a, .int .i64 b, .int .i64 c] w fun e w' => e = .returned (.bool (inR a b c)) ∧ ∃ n, w' = w.drewN n := by
  by_cases h : b ≤ a
  · go_enter Try.func117, Try.ntmps117
    go_wp2
    go_ret
    exact ⟨ret_bool (by simp [inR, h]), 0, rfl⟩
  · go_enter Try.func117, Try.ntmps117
    go_wp2
    go_ret
    exact ⟨ret_bool (by simp [inR]; omega), 0, rfl⟩

theorem implUp (a b : Int) (w : World) (hb : -9223372036854775807 ≤ b) (hb' : b ≤ 9223372036854775807) : Calls Try.prog 185 #[.int .i64 a, .int .i64 b] w fun e w' => e = .returned (.bool (inR a (-b) b)) ∧ ∃ n, w' = w.drewN n := by
  go_enter Try.func185, Try.ntmps185
  go_wp2_with (first | (go_at_call 117; refine (implIn _ _ _ _).mono ?_; rintro e w1 ⟨rfl, n, rfl⟩))
  go_ret
  exact ⟨rfl, n, rfl⟩

theorem implSize (a : Int) (w : World) (ha : -9223372036854775807 ≤ a) (ha' : a ≤ 9223372036854775807) : Calls Try.prog 194 #[.int .i64 a] w fun e w' => e = .returned (.int .i64 (a.natAbs : Int)) ∧ w = w' := by
  go_enter Try.func194, Try.ntmps194
  go_wp2
  all_goals
    go_ret
    exact ⟨ret_int (by omega), rfl⟩

theorem implGcd (a b : Int) (w : World) (ha : -9223372036854775807 ≤ a) (ha' : a ≤ 9223372036854775807) (hb : -9223372036854775807 ≤ b) (hb' : b ≤ 9223372036854775807) :
    Calls Try.prog 186 #[.int .i64 a, .int .i64 b] w fun e w' => e = .returned (.int .i64 (Int.gcd a b)) ∧ ∃ n, w' = w.drewN n := by
  go_enter Try.func186, Try.ntmps186
  go_wp2_with (first | (go_at_call 194; refine (implSize _ _ (by assumption) (by assumption)).mono ?_; rintro e w1 ⟨rfl, rfl⟩))
  go_loopw [0, 1] (fun x y w' => ∃ p q n : Nat, x = .int .i64 (p : Int) ∧ y = .int .i64 (q : Int) ∧ Hid (Nat.gcd p q = Int.gcd a b) ∧ p ≤ 9223372036854775807 ∧ q ≤ 9223372036854775807 ∧ Hid (w' = w.drewN n)) (fun _ y _ => (intOf y).natAbs)
  case atStart => exact ⟨a.natAbs, b.natAbs, 0, rfl, rfl, rfl, by omega, by omega, rfl⟩
  case round =>
    clear ha ha' hb hb'
    obtain ⟨p, q, n, rfl, rfl, hg, hp, hq, hw⟩ := hrel
    by_cases h : q = 0
    · have h1 : ((q : Int) == 0) = true := by simpa using h
      have h2 : ((q : Int) != 0) = false := by simpa using h
      have hfin := Lib.hid (show (p : Int) = (Int.gcd a b : Int) by rw [← hg.out, h, Nat.gcd_zero_right])
      clear hg h
      go_wp2
      go_ret
      exact ⟨ret_int hfin.out, n, hw.out⟩
    · have h1 : ((q : Int) == 0) = false := by simpa using h
      have h2 : ((q : Int) != 0) = true := by simpa using h
      have h3 : ¬ ((q : Int) = 0) := by simpa using h
      have hm : p % q < q := Nat.mod_lt _ (by omega)
      have hg' : Hid (Nat.gcd q (p % q) = Int.gcd a b) := by rw [Hid, Nat.gcd_comm, ← Nat.gcd_rec, Nat.gcd_comm]; exact hg.out
      go_wp2
      go_region
      go_roundw
      case rel => (repeat apply Exists.intro); exact ⟨⟨q, p % q, n + 1, rfl, by go_num, hg', hq, by omega, by rw [Hid, hw.out]; rfl⟩, rfl⟩
      case measure => simp [intOf]; omega

theorem implIsFraction (a b : Int) (w : World) : Calls Try.prog 150 #[.agg #[.int .i64 a, .int .i64 b]] w fun e w' => e = .returned (.bool (isFr a b)) ∧ Below w.heap.size w w' := by
  cases h1 : inR b 1 1000000000 with
  | false =>
    have hf := Lib.hid (show isFr a b = false by simp [isFr, h1])
    go_enter Try.func150, Try.ntmps150
    go_wp2_with (first | (go_at_call 117; refine (implIn _ _ _ _).mono ?_; rintro e w1 ⟨rfl, n, rfl⟩))
    go_ret
    exact ⟨ret_bool hf.out.symm, by repeat (first | exact Below.refl _ _ | (with_reducible assumption) | exact HB.out | apply below_alloc | apply pw_below_drewN | apply below_drew | refine below_set ?_ (by first | omega | (simp; done) | (simp; omega)) | assumption)⟩
  | true =>
    cases h2 : inR a (-1000000000) 1000000000 with
    | false =>
      have hf := Lib.hid (show isFr a b = false by simp [isFr, h1, h2])
      go_enter Try.func150, Try.ntmps150
      go_wp2_with (first | (go_at_call 117; refine (implIn _ _ _ _).mono ?_; rintro e w1 ⟨rfl, n, rfl⟩) | (go_at_call 185; refine (implUp _ _ _ (by omega) (by omega)).mono ?_; rintro e w1 ⟨rfl, n, rfl⟩))
      go_ret
      exact ⟨ret_bool hf.out.symm, by repeat (first | exact Below.refl _ _ | (with_reducible assumption) | exact HB.out | apply below_alloc | apply pw_below_drewN | apply below_drew | refine below_set ?_ (by first | omega | (simp; done) | (simp; omega)) | assumption)⟩
    | true =>
      have hf := Lib.hid (show isFr a b = ((Int.gcd a b : Int) == 1) by simp [isFr, h1, h2]; rfl)
      obtain ⟨k11, k12⟩ := (inR_iff _ _ _).1 h1
      obtain ⟨k21, k22⟩ := (inR_iff _ _ _).1 h2
      go_enter Try.func150, Try.ntmps150
      go_wp2_with (first | (go_at_call 117; refine (implIn _ _ _ _).mono ?_; rintro e w1 ⟨rfl, n, rfl⟩) | (go_at_call 185; refine (implUp _ _ _ (by omega) (by omega)).mono ?_; rintro e w1 ⟨rfl, n, rfl⟩) | (go_at_call 186; refine (implGcd _ _ _ (by omega) (by omega) (by omega) (by omega)).mono ?_; rintro e w1 ⟨rfl, n, rfl⟩))
      go_ret
      exact ⟨ret_bool hf.out.symm, by repeat (first | exact Below.refl _ _ | (with_reducible assumption) | exact HB.out | apply below_alloc | apply pw_below_drewN | apply below_drew | refine below_set ?_ (by first | omega | (simp; done) | (simp; omega)) | assumption)⟩

set_option maxHeartbeats 2000000 in
theorem implReduced (a b : Int) (w : World) (h0 : b ≠ 0) (ha : -9223372036854775807 ≤ a) (ha' : a ≤ 9223372036854775807) (hb : -9223372036854775807 ≤ b) (hb' : b ≤ 9223372036854775807) :
    Calls Try.prog 166 #[.int .i64 a, .int .i64 b] w fun e w' =>
      e = .returned (.tuple #[.agg #[.int .i64 (rnum a b), .int .i64 (rden a b)], .bool (okN a b)]) ∧ Below w.heap.size w w' := by
  have hs := sgd_ne (a := a) h0
  have hs1 : (sgd a b == 0) = false := by simpa using hs
  have hg := gcd_pos (a := a) h0
  have hl := gcd_le (a := a) h0
  have hn := rnum_abs a b
  have hd := rden_abs a b
  have hwn : wrap64 (a.tdiv (sgd a b)) = a.tdiv (sgd a b) := by have : (a.tdiv (sgd a b)).natAbs ≤ a.natAbs := hn; unfold wrap64; omega
  have hwd : wrap64 (b.tdiv (sgd a b)) = b.tdiv (sgd a b) := by have : (b.tdiv (sgd a b)).natAbs ≤ b.natAbs := hd; unfold wrap64; omega
  have hwn' : IntKind.i64.wrap (a.tdiv (sgd a b)) = a.tdiv (sgd a b) := (i64_w _).trans hwn
  have hwd' : IntKind.i64.wrap (b.tdiv (sgd a b)) = b.tdiv (sgd a b) := (i64_w _).trans hwd
  have hko := Lib.hid (show isFr (a.tdiv (sgd a b)) (b.tdiv (sgd a b)) = okN a b from rfl)
  have hrn := Lib.hid (show a.tdiv (sgd a b) = rnum a b from rfl)
  have hrd := Lib.hid (show b.tdiv (sgd a b) = rden a b from rfl)
  have hsg : b < 0 ∧ Hid (-(Int.gcd a b : Int) = sgd a b) ∨ ¬ b < 0 ∧ Hid ((Int.gcd a b : Int) = sgd a b) := by
    unfold sgd Hid; by_cases hneg : b < 0 <;> simp [hneg]
  rcases hsg with ⟨hneg, hsg⟩ | ⟨hneg, hsg⟩
  all_goals
    go_enter Try.func166, Try.ntmps166
    go_wp2_with (first | (go_at_call 186; refine (implGcd _ _ _ ha ha' hb hb').mono ?_; rintro e w1 ⟨rfl, n, rfl⟩))
    clear hg hl hn hd
    rw [hsg.out]
    clear hsg
    generalize sgd a b = d at *
    go_region
    go_wp2
    go_region_with (go_at_call 150; refine (implIsFraction _ _ _).mono ?_; rintro e w1 ⟨rfl, hb1⟩; obtain ⟨hc1, hf1⟩ := bcell hb1; have hz1 := hb1.size; (try simp at hz1); (try have hy0 := Nat.lt_of_succ_le hz1); (try have hy1 := Nat.lt_of_succ_lt hy0); (try have hy2 := Nat.lt_of_succ_lt hy1); (try have hy3 := Nat.lt_of_succ_lt hy2); (try have hv0 : w.heap.size < w1.heap.size := by omega); (try have hv1 : w.heap.size + 1 < w1.heap.size := by omega); (try have hv2 : w.heap.size + 1 + 1 < w1.heap.size := by omega); have HB := Lib.hid (below_pair (w := w) (by repeat (first | exact Below.refl _ _ | (with_reducible assumption) | exact HB.out | apply below_alloc | apply pw_below_drewN | apply below_drew | refine below_set ?_ (by first | omega | (simp; done) | (simp; omega)) | assumption)) hb1); clear hb1; have hx0 : w1.cell? ⟨w.heap.size, 0, none⟩ = some (.int .i64 0) := (hc1 _ _ (by go_simp)).trans (by go_simp); have hx1 : w1.cell? ⟨w.heap.size, 1, none⟩ = some (.int .i64 0) := (hc1 _ _ (by go_simp)).trans (by go_simp))
    all_goals
      go_wp2
      exact bodyPost_ret (v := .tuple #[.agg #[.int .i64 (a.tdiv d), .int .i64 (b.tdiv d)], .bool (isFr (a.tdiv d) (b.tdiv d))]) (by simp only [results, Try.results166]; go_simp) rfl ⟨by rw [hko.out, hrn.out, hrd.out], by repeat (first | exact Below.refl _ _ | (with_reducible assumption) | exact HB.out | apply below_alloc | apply pw_below_drewN | apply below_drew | refine below_set ?_ (by first | omega | (simp; done) | (simp; omega)) | assumption)⟩
end Go.Proofs.Ytaheikponfmdiaa.H

