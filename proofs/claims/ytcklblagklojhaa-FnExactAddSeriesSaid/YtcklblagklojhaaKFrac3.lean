/- What the program's sums, products and quotients of fractions return: proved by walking their code. Conditions: the bounds that stand in each statement. -/
import Derived.Test.YtcklblagklojhaaKFrac
namespace Go.Proofs.Ytcklblagklojhaa.H
open Go.RowKit Go.Proofs.YtcklblagklojhaaW.PrintWords Go.Proofs.YtcklblagklojhaaW.PrintLast Go.Proofs.YtcklblagklojhaaW.PrintMore Go.Proofs.Ytcklblagklojhaa.M
attribute [local go_sem] max2_int min2_int max_two min_two max_three min_three max_four min_four
set_option linter.unusedVariables false
set_option linter.unusedSimpArgs false


theorem implTimes (a1 a2 b1 b2 : Int) (w : World) (ha : small (a1, a2)) (hb : small (b1, b2)) (h0 : a2 * b2 ≠ 0) : Calls Try.prog 155 #[.agg #[.int .i64 a1, .int .i64 a2], .agg #[.int .i64 b1, .int .i64 b2]] w fun e w' =>
    e = .returned (.tuple #[.agg #[.int .i64 (rnum (a1 * b1) (a2 * b2)), .int .i64 (rden (a1 * b1) (a2 * b2))], .bool (okN (a1 * b1) (a2 * b2))]) ∧ Below w.heap.size w w' := by
  unfold small at ha hb
  obtain ⟨x1, x2, x3, x4⟩ := ha
  obtain ⟨y1, y2, y3, y4⟩ := hb
  have H0 := Lib.hid h0
  clear h0
  obtain ⟨n0, m0⟩ := small_mul (a := a1) (b := b1) ⟨x1, x2⟩ ⟨y1, y2⟩
  have hw0 : wrap64 (a1 * b1) = a1 * b1 := wrap_id (by omega) (by omega)
  have hv0 : IntKind.i64.wrap (a1 * b1) = a1 * b1 := (i64_w _).trans hw0
  obtain ⟨n1, m1⟩ := small_mul (a := a2) (b := b2) ⟨x3, x4⟩ ⟨y3, y4⟩
  have hw1 : wrap64 (a2 * b2) = a2 * b2 := wrap_id (by omega) (by omega)
  have hv1 : IntKind.i64.wrap (a2 * b2) = a2 * b2 := (i64_w _).trans hw1
  clear x1 x2 x3 x4 y1 y2 y3 y4
  go_enter Try.func155, Try.ntmps155
  go_wp2_with (first | (go_at_call 97; refine (implReduced _ _ _ H0.out (by omega) (by omega) (by omega) (by omega)).mono ?_; rintro e w1 ⟨rfl, hb1⟩; obtain ⟨hc1, hf1⟩ := bcell hb1; have hz1 := hb1.size; (try simp at hz1); (try have hy0 := Nat.lt_of_succ_le hz1); (try have hy1 := Nat.lt_of_succ_lt hy0); (try have hy2 := Nat.lt_of_succ_lt hy1); (try have hy3 := Nat.lt_of_succ_lt hy2); (try have hv0 : w.heap.size < w1.heap.size := by omega); (try have hv1 : w.heap.size + 1 < w1.heap.size := by omega); (try have hv2 : w.heap.size + 1 + 1 < w1.heap.size := by omega); have HB := Lib.hid (below_pair (w := w) (by repeat (first | exact Below.refl _ _ | (with_reducible assumption) | exact HB.out | apply below_alloc | apply pw_below_drewN | apply below_drew | refine below_set ?_ (by first | omega | (simp; done) | (simp; omega)) | assumption)) hb1); clear hb1))
  exact bodyPost_ret (v := .tuple #[.agg #[.int .i64 (rnum (a1 * b1) (a2 * b2)), .int .i64 (rden (a1 * b1) (a2 * b2))], .bool (okN (a1 * b1) (a2 * b2))]) (by simp only [results, Try.results155]; go_simp) rfl ⟨rfl, by repeat (first | exact Below.refl _ _ | (with_reducible assumption) | exact HB.out | apply below_alloc | apply pw_below_drewN | apply below_drew | refine below_set ?_ (by first | omega | (simp; done) | (simp; omega)) | assumption)⟩

theorem implPlus (a1 a2 b1 b2 : Int) (w : World) (ha : small (a1, a2)) (hb : small (b1, b2)) (h0 : a2 * b2 ≠ 0) : Calls Try.prog 198 #[.agg #[.int .i64 a1, .int .i64 a2], .agg #[.int .i64 b1, .int .i64 b2]] w fun e w' =>
    e = .returned (.tuple #[.agg #[.int .i64 (rnum (a1 * b2 + b1 * a2) (a2 * b2)), .int .i64 (rden (a1 * b2 + b1 * a2) (a2 * b2))], .bool (okN (a1 * b2 + b1 * a2) (a2 * b2))]) ∧ Below w.heap.size w w' := by
  unfold small at ha hb
  obtain ⟨x1, x2, x3, x4⟩ := ha
  obtain ⟨y1, y2, y3, y4⟩ := hb
  have H0 := Lib.hid h0
  clear h0
  obtain ⟨n0, m0⟩ := small_mul (a := a1) (b := b2) ⟨x1, x2⟩ ⟨y3, y4⟩
  have hw0 : wrap64 (a1 * b2) = a1 * b2 := wrap_id (by omega) (by omega)
  have hv0 : IntKind.i64.wrap (a1 * b2) = a1 * b2 := (i64_w _).trans hw0
  obtain ⟨n1, m1⟩ := small_mul (a := b1) (b := a2) ⟨y1, y2⟩ ⟨x3, x4⟩
  have hw1 : wrap64 (b1 * a2) = b1 * a2 := wrap_id (by omega) (by omega)
  have hv1 : IntKind.i64.wrap (b1 * a2) = b1 * a2 := (i64_w _).trans hw1
  obtain ⟨n2, m2⟩ := small_mul (a := a2) (b := b2) ⟨x3, x4⟩ ⟨y3, y4⟩
  have hw2 : wrap64 (a2 * b2) = a2 * b2 := wrap_id (by omega) (by omega)
  have hv2 : IntKind.i64.wrap (a2 * b2) = a2 * b2 := (i64_w _).trans hw2
  clear x1 x2 x3 x4 y1 y2 y3 y4
  go_enter Try.func198, Try.ntmps198
  go_wp2_with (first | (go_at_call 97; refine (implReduced _ _ _ H0.out (by omega) (by omega) (by omega) (by omega)).mono ?_; rintro e w1 ⟨rfl, hb1⟩; obtain ⟨hc1, hf1⟩ := bcell hb1; have hz1 := hb1.size; (try simp at hz1); (try have hy0 := Nat.lt_of_succ_le hz1); (try have hy1 := Nat.lt_of_succ_lt hy0); (try have hy2 := Nat.lt_of_succ_lt hy1); (try have hy3 := Nat.lt_of_succ_lt hy2); (try have hv0 : w.heap.size < w1.heap.size := by omega); (try have hv1 : w.heap.size + 1 < w1.heap.size := by omega); (try have hv2 : w.heap.size + 1 + 1 < w1.heap.size := by omega); have HB := Lib.hid (below_pair (w := w) (by repeat (first | exact Below.refl _ _ | (with_reducible assumption) | exact HB.out | apply below_alloc | apply pw_below_drewN | apply below_drew | refine below_set ?_ (by first | omega | (simp; done) | (simp; omega)) | assumption)) hb1); clear hb1))
  exact bodyPost_ret (v := .tuple #[.agg #[.int .i64 (rnum (a1 * b2 + b1 * a2) (a2 * b2)), .int .i64 (rden (a1 * b2 + b1 * a2) (a2 * b2))], .bool (okN (a1 * b2 + b1 * a2) (a2 * b2))]) (by simp only [results, Try.results198]; go_simp) rfl ⟨rfl, by repeat (first | exact Below.refl _ _ | (with_reducible assumption) | exact HB.out | apply below_alloc | apply pw_below_drewN | apply below_drew | refine below_set ?_ (by first | omega | (simp; done) | (simp; omega)) | assumption)⟩

/-- The same, by fractions. -/
theorem implPlusF (a b : Fr) (w : World) (ha : fr a = true) (hb : fr b = true) : Calls Try.prog 198 #[.agg #[.int .i64 a.1, .int .i64 a.2], .agg #[.int .i64 b.1, .int .i64 b.2]] w fun e w' =>
    ∃ x y : Int, (∀ c, add a b = some c → c = (x, y)) ∧ e = .returned (.tuple #[.agg #[.int .i64 x, .int .i64 y], .bool (add a b).isSome]) ∧ Below w.heap.size w w' := by
  have h1 := fr_den ha
  have h2 := fr_den hb
  have h0 : a.2 * b.2 ≠ 0 := Int.mul_ne_zero (by omega) (by omega)
  refine (implPlus a.1 a.2 b.1 b.2 w (fr_small ha) (fr_small hb) h0).mono ?_
  rintro e w' ⟨rfl, hbl⟩
  refine ⟨rnum (a.1 * b.2 + b.1 * a.2) (a.2 * b.2), rden (a.1 * b.2 + b.1 * a.2) (a.2 * b.2), ?_, ?_, hbl⟩
  · intro c hc
    unfold add frac at hc
    split at hc
    · injection hc with hc; exact hc.symm
    · cases hc
  · have : (add a b).isSome = okN (a.1 * b.2 + b.1 * a.2) (a.2 * b.2) := by
      unfold add frac
      cases h : okN (a.1 * b.2 + b.1 * a.2) (a.2 * b.2) with
      | true => rw [if_pos ⟨h0, rfl⟩]; rfl
      | false => rw [if_neg (by simp)]; rfl
    rw [this]
theorem implTimesF (a b : Fr) (w : World) (ha : fr a = true) (hb : fr b = true) : Calls Try.prog 155 #[.agg #[.int .i64 a.1, .int .i64 a.2], .agg #[.int .i64 b.1, .int .i64 b.2]] w fun e w' =>
    ∃ x y : Int, (∀ c, mul a b = some c → c = (x, y)) ∧ e = .returned (.tuple #[.agg #[.int .i64 x, .int .i64 y], .bool (mul a b).isSome]) ∧ Below w.heap.size w w' := by
  have h1 := fr_den ha
  have h2 := fr_den hb
  have h0 : a.2 * b.2 ≠ 0 := Int.mul_ne_zero (by omega) (by omega)
  refine (implTimes a.1 a.2 b.1 b.2 w (fr_small ha) (fr_small hb) h0).mono ?_
  rintro e w' ⟨rfl, hbl⟩
  refine ⟨rnum (a.1 * b.1) (a.2 * b.2), rden (a.1 * b.1) (a.2 * b.2), ?_, ?_, hbl⟩
  · intro c hc
    unfold mul frac at hc
    split at hc
    · injection hc with hc; exact hc.symm
    · cases hc
  · have : (mul a b).isSome = okN (a.1 * b.1) (a.2 * b.2) := by
      unfold mul frac
      cases h : okN (a.1 * b.1) (a.2 * b.2) with
      | true => rw [if_pos ⟨h0, rfl⟩]; rfl
      | false => rw [if_neg (by simp)]; rfl
    rw [this]
end Go.Proofs.Ytcklblagklojhaa.H
