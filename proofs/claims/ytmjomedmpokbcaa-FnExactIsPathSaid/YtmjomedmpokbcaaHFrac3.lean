/- What the program's sums, products and quotients of fractions return: proved by walking their code. Conditions: the bounds that stand in each statement. -/
import Derived.Test.YtmjomedmpokbcaaHFrac2
namespace Go.Proofs.Ytmjomedmpokbcaa.H
open Go.RowKit Go.Proofs.YtmjomedmpokbcaaW.PrintWords Go.Proofs.YtmjomedmpokbcaaW.PrintLast Go.Proofs.YtmjomedmpokbcaaW.PrintMore Go.Proofs.Ytmjomedmpokbcaa.M
attribute [local go_sem] max2_int min2_int max_two min_two max_three min_three max_four min_four
set_option linter.unusedVariables false
set_option linter.unusedSimpArgs false


theorem implTimes (a1 a2 b1 b2 : Int) (w : World) (ha : small (a1, a2)) (hb : small (b1, b2)) (h0 : a2 * b2 ≠ 0) : Calls Try.prog 74 #[.agg #[.int .i64 a1, .int .i64 a2], .agg #[.int .i64 b1, .int .i64 b2]] w fun e w' =>
    e = .returned (.tuple #[.agg #[.int .i64 (rnum (a1 * b1) (a2 * b2)), .int .i64 (rden (a1 * b1) (a2 * b2))], .bool (okN (a1 * b1) (a2 * b2))]) ∧ Below w.heap.size w w' := by
  unfold small at ha hb
  obtain ⟨x1, x2, x3, x4⟩ := ha
  obtain ⟨y1, y2, y3, y4⟩ := hb
  have H0 := Lib.hid h0
  clear h0
  obtain ⟨n0, m0⟩ := small_mul (a := a1) (b := b1) ⟨x1, x2⟩ ⟨y1, y2⟩
  have hw0 : wrap64 (a1 * b1) = a1 * b1 := wrap_id (by omega) (by omega)
  have hv0 : IntKind.i64.wrap (a1 * b1) = a1 * b1 := (i64_w _).trans hw0
  obtain ⟨n1, m1⟩ := small_mul (a := a2) (b := b2) ⟨x3, x4⟩ ⟨y3, y4⟩
  have hw1 : wrap64 (a2 * b2) = a2 * b2 := wrap_id (by omega) (by omega)
  have hv1 : IntKind.i64.wrap (a2 * b2) = a2 * b2 := (i64_w _).trans hw1
  clear x1 x2 x3 x4 y1 y2 y3 y4
  go_enter Try.func74, Try.ntmps74
  go_wp2_with (first | (go_at_call 63; refine (implReduced _ _ _ H0.out (by omega) (by omega) (by omega) (by omega)).mono ?_; rintro e w1 ⟨rfl, hb1⟩; obtain ⟨hc1, hf1⟩ := bcell hb1; have hz1 := hb1.size; (try simp at hz1); (try have hy0 := Nat.lt_of_succ_le hz1); (try have hy1 := Nat.lt_of_succ_lt hy0); (try have hy2 := Nat.lt_of_succ_lt hy1); (try have hy3 := Nat.lt_of_succ_lt hy2); (try have hv0 : w.heap.size < w1.heap.size := by omega); (try have hv1 : w.heap.size + 1 < w1.heap.size := by omega); (try have hv2 : w.heap.size + 1 + 1 < w1.heap.size := by omega); have HB := Lib.hid (below_pair (w := w) (by repeat (first | exact Below.refl _ _ | (with_reducible assumption) | exact HB.out | apply below_alloc | apply pw_below_drewN | apply below_drew | refine below_set ?_ (by first | omega | (simp; done) | (simp; omega)) | assumption)) hb1); clear hb1))
  exact bodyPost_ret (v := .tuple #[.agg #[.int .i64 (rnum (a1 * b1) (a2 * b2)), .int .i64 (rden (a1 * b1) (a2 * b2))], .bool (okN (a1 * b1) (a2 * b2))]) (by simp only [results, Try.results74]; go_simp) rfl ⟨rfl, by repeat (first | exact Below.refl _ _ | (with_reducible assumption) | exact HB.out | apply below_alloc | apply pw_below_drewN | apply below_drew | refine below_set ?_ (by first | omega | (simp; done) | (simp; omega)) | assumption)⟩

theorem implPlus (a1 a2 b1 b2 : Int) (w : World) (ha : small (a1, a2)) (hb : small (b1, b2)) (h0 : a2 * b2 ≠ 0) : Calls Try.prog 76 #[.agg #[.int .i64 a1, .int .i64 a2], .agg #[.int .i64 b1, .int .i64 b2]] w fun e w' =>
    e = .returned (.tuple #[.agg #[.int .i64 (rnum (a1 * b2 + b1 * a2) (a2 * b2)), .int .i64 (rden (a1 * b2 + b1 * a2) (a2 * b2))], .bool (okN (a1 * b2 + b1 * a2) (a2 * b2))]) ∧ Below w.heap.size w w' := by
  unfold small at ha hb
  obtain ⟨x1, x2, x3, x4⟩ := ha
  obtain ⟨y1, y2, y3, y4⟩ := hb
  have H0 := Lib.hid h0
  clear h0
  obtain ⟨n0, m0⟩ := small_mul (a := a1) (b := b2) ⟨x1, x2⟩ ⟨y3, y4⟩
  have hw0 : wrap64 (a1 * b2) = a1 * b2 := wrap_id (by omega) (by omega)
  have hv0 : IntKind.i64.wrap (a1 * b2) = a1 * b2 := (i64_w _).trans hw0
  obtain ⟨n1, m1⟩ := small_mul (a := b1) (b := a2) ⟨y1, y2⟩ ⟨x3, x4⟩
  have hw1 : wrap64 (b1 * a2) = b1 * a2 := wrap_id (by omega) (by omega)
  have hv1 : IntKind.i64.wrap (b1 * a2) = b1 * a2 := (i64_w _).trans hw1
  obtain ⟨n2, m2⟩ := small_mul (a := a2) (b := b2) ⟨x3, x4⟩ ⟨y3, y4⟩
  have hw2 : wrap64 (a2 * b2) = a2 * b2 := wrap_id (by omega) (by omega)
  have hv2 : IntKind.i64.wrap (a2 * b2) = a2 * b2 := (i64_w _).trans hw2
  clear x1 x2 x3 x4 y1 y2 y3 y4
  go_enter Try.func76, Try.ntmps76
  go_wp2_with (first | (go_at_call 63; refine (implReduced _ _ _ H0.out (by omega) (by omega) (by omega) (by omega)).mono ?_; rintro e w1 ⟨rfl, hb1⟩; obtain ⟨hc1, hf1⟩ := bcell hb1; have hz1 := hb1.size; (try simp at hz1); (try have hy0 := Nat.lt_of_succ_le hz1); (try have hy1 := Nat.lt_of_succ_lt hy0); (try have hy2 := Nat.lt_of_succ_lt hy1); (try have hy3 := Nat.lt_of_succ_lt hy2); (try have hv0 : w.heap.size < w1.heap.size := by omega); (try have hv1 : w.heap.size + 1 < w1.heap.size := by omega); (try have hv2 : w.heap.size + 1 + 1 < w1.heap.size := by omega); have HB := Lib.hid (below_pair (w := w) (by repeat (first | exact Below.refl _ _ | (with_reducible assumption) | exact HB.out | apply below_alloc | apply pw_below_drewN | apply below_drew | refine below_set ?_ (by first | omega | (simp; done) | (simp; omega)) | assumption)) hb1); clear hb1))
  exact bodyPost_ret (v := .tuple #[.agg #[.int .i64 (rnum (a1 * b2 + b1 * a2) (a2 * b2)), .int .i64 (rden (a1 * b2 + b1 * a2) (a2 * b2))], .bool (okN (a1 * b2 + b1 * a2) (a2 * b2))]) (by simp only [results, Try.results76]; go_simp) rfl ⟨rfl, by repeat (first | exact Below.refl _ _ | (with_reducible assumption) | exact HB.out | apply below_alloc | apply pw_below_drewN | apply below_drew | refine below_set ?_ (by first | omega | (simp; done) | (simp; omega)) | assumption)⟩

theorem implTold (c d : Int) (ok : Bool) (w : World) : Calls Try.prog 62 #[.agg #[.int .i64 c, .int .i64 d], .bool ok] w fun e w' =>
    e = .returned (.tuple #[.agg #[.int .i64 (told (if ok = true then some (c, d) else none)).1.1, .int .i64 (told (if ok = true then some (c, d) else none)).1.2], .int .i64 (told (if ok = true then some (c, d) else none)).2]) ∧ Below w.heap.size w w' := by
  cases ok with
  | false =>
    go_enter Try.func62, Try.ntmps62
    go_wp2
    exact bodyPost_ret (v := .tuple #[.agg #[.int .i64 0, .int .i64 0], .int .i64 3]) (by simp [results, Try.results62, go_sem]) rfl ⟨rfl, by repeat (first | exact Below.refl _ _ | (with_reducible assumption) | exact HB.out | apply below_alloc | apply pw_below_drewN | apply below_drew | refine below_set ?_ (by first | omega | (simp; done) | (simp; omega)) | assumption)⟩
  | true =>
    go_enter Try.func62, Try.ntmps62
    go_wp2
    exact bodyPost_ret (v := .tuple #[.agg #[.int .i64 c, .int .i64 d], .int .i64 0]) (by simp [results, Try.results62, go_sem]) rfl ⟨rfl, by repeat (first | exact Below.refl _ _ | (with_reducible assumption) | exact HB.out | apply below_alloc | apply pw_below_drewN | apply below_drew | refine below_set ?_ (by first | omega | (simp; done) | (simp; omega)) | assumption)⟩

theorem implToldN (n d : Int) (w : World) (h : d ≠ 0) : Calls Try.prog 62 #[.agg #[.int .i64 (rnum n d), .int .i64 (rden n d)], .bool (okN n d)] w fun e w' =>
    e = .returned (.tuple #[.agg #[.int .i64 (told (frac n d)).1.1, .int .i64 (told (frac n d)).1.2], .int .i64 (told (frac n d)).2]) ∧ Below w.heap.size w w' := by
  have h1 := implTold (rnum n d) (rden n d) (okN n d) w
  have h2 : (if okN n d = true then some (rnum n d, rden n d) else none) = frac n d := by unfold frac; simp [h]
  rw [h2] at h1
  exact h1

/-- All of a list are fractions. -/
def allFr (l : List Fr) : Bool := l.all fr
theorem fr_any {w : World} {A : Option Addr} {n : Nat} {l : List Fr} (h : (Kd.pair (.int .i64) (.int .i64)).C w A n l) (i : Nat) (hi : i < n) :
    ∃ ad, A = some ad ∧ w.cell? (ad.add (i * 2)) = some (.int .i64 (l.getD i (0, 0)).1) ∧ w.cell? ⟨(ad.add (i * 2)).block, (ad.add (i * 2)).off + 1, none⟩ = some (.int .i64 (l.getD i (0, 0)).2) := by
  obtain ⟨ad, c, hA, hl, ⟨c0, c1, rfl, h0, h1⟩, hc⟩ := Kd.C_get h (0, 0) (i : Int) (by omega) (by omega)
  simp only [Int.toNat_natCast] at hc h0 h1
  have h0' : c0 = [.int .i64 (l.getD i (0, 0)).1] := h0
  have h1' : c1 = [.int .i64 (l.getD i (0, 0)).2] := h1
  subst h0' h1'
  exact ⟨ad, hA, hc 0 _ rfl, by rw [← add_field ad (i * 2) 1 (by omega)]; exact hc 1 _ rfl⟩

theorem implLambda (a b : Int) (w : World) : Calls Try.prog 84 #[.agg #[.int .i64 a, .int .i64 b]] w fun e w' => e = .returned (.bool (!isFr a b)) ∧ Below w.heap.size w w' := by
  go_enter Try.func84, Try.ntmps84
  go_wp2_with (first | (go_at_call 16; refine (implIsFraction _ _ _).mono ?_; rintro e w1 ⟨rfl, hb1⟩; obtain ⟨hc1, hf1⟩ := bcell hb1; have hz1 := hb1.size; (try simp at hz1); (try have hy0 := Nat.lt_of_succ_le hz1); (try have hy1 := Nat.lt_of_succ_lt hy0); (try have hy2 := Nat.lt_of_succ_lt hy1); (try have hy3 := Nat.lt_of_succ_lt hy2); (try have hv0 : w.heap.size < w1.heap.size := by omega); (try have hv1 : w.heap.size + 1 < w1.heap.size := by omega); (try have hv2 : w.heap.size + 1 + 1 < w1.heap.size := by omega); have HB := Lib.hid (below_pair (w := w) (by repeat (first | exact Below.refl _ _ | (with_reducible assumption) | exact HB.out | apply below_alloc | apply pw_below_drewN | apply below_drew | refine below_set ?_ (by first | omega | (simp; done) | (simp; omega)) | assumption)) hb1); clear hb1))
  go_ret
  exact ⟨rfl, by repeat (first | exact Below.refl _ _ | (with_reducible assumption) | exact HB.out | apply below_alloc | apply pw_below_drewN | apply below_drew | refine below_set ?_ (by first | omega | (simp; done) | (simp; omega)) | assumption)⟩

theorem implIndexFunc (A : Option Addr) (c : Nat) (l : List Fr) (w : World) (hm : l.length ≤ 9223372036854775807) (hr : (Kd.pair (.int .i64) (.int .i64)).C w A l.length l) :
    Calls Try.prog 86 #[.slice A l.length c, .func (.func 84) #[] #[]] w fun e w' => (∃ r : Int, e = .returned (.int .i64 r) ∧ (r < 0 ↔ allFr l = true)) ∧ Below w.heap.size w w' := by
  have HR := Lib.hid hr
  clear hr
  go_enter Try.func86, Try.ntmps86
  go_wp2
  go_loopw [8] (fun x w' => ∃ k : Nat, k ≤ l.length ∧ x = .int .i64 (k : Int) ∧ Hid (∀ j, j < k → fr (l.getD j (0, 0)) = true) ∧ Hid (Below w.heap.size w w')) (fun x _ => l.length - (intOf x).toNat)
  case atStart => exact ⟨0, by omega, rfl, fun j hj => by omega, Below.refl _ _⟩
  case round =>
    obtain ⟨k, hk, rfl, hall, HB⟩ := hrel
    by_cases hlt : k < l.length
    · obtain ⟨ad, rfl, hx0, hx1⟩ := fr_any HR.out k hlt
      replace hx0 := (HB.out.cell (World.block_lt_of_cell? w _ hx0)).trans hx0
      replace hx1 := (HB.out.cell (World.block_lt_of_cell? w _ hx1)).trans hx1
      obtain ⟨⟨p, q⟩, hpq⟩ : ∃ y, y = l.getD k (0, 0) := ⟨_, rfl⟩
      rw [← hpq] at hx0 hx1
      have HPQ := Lib.hid hpq
      clear hpq
      cases hf : isFr p q with
      | false =>
        have hno := Lib.hid (show allFr l = false by
          rw [allFr, List.all_eq_false]
          refine ⟨l.getD k (0, 0), ?_, by rw [← HPQ.out]; simp [fr, hf]⟩
          rw [List.getD_eq_getElem?_getD, List.getElem?_eq_getElem hlt]; exact List.getElem_mem _)
        go_wp2_with (first | (go_at_call 84; refine (implLambda _ _ _).mono ?_; rintro e w1 ⟨rfl, hb1⟩; obtain ⟨hc1, hf1⟩ := bcell hb1; have hz1 := hb1.size; (try simp at hz1); (try have hy0 := Nat.lt_of_succ_le hz1); (try have hy1 := Nat.lt_of_succ_lt hy0); (try have hy2 := Nat.lt_of_succ_lt hy1); (try have hy3 := Nat.lt_of_succ_lt hy2); (try have hv0 : w.heap.size < w1.heap.size := by omega); (try have hv1 : w.heap.size + 1 < w1.heap.size := by omega); (try have hv2 : w.heap.size + 1 + 1 < w1.heap.size := by omega); have HB := Lib.hid (below_pair (w := w) (by repeat (first | exact Below.refl _ _ | (with_reducible assumption) | exact HB.out | apply below_alloc | apply pw_below_drewN | apply below_drew | refine below_set ?_ (by first | omega | (simp; done) | (simp; omega)) | assumption)) hb1); clear hb1))
        go_ret
        exact ⟨⟨k, rfl, by rw [hno.out]; constructor <;> intro h <;> first | omega | cases h⟩, by repeat (first | exact Below.refl _ _ | (with_reducible assumption) | exact HB.out | apply below_alloc | apply pw_below_drewN | apply below_drew | refine below_set ?_ (by first | omega | (simp; done) | (simp; omega)) | assumption)⟩
      | true =>
        have hall' : Hid (∀ j, j < k + 1 → fr (l.getD j (0, 0)) = true) := fun j hj => by
          rcases Nat.lt_or_ge j k with h | h
          · exact hall.out j h
          · obtain rfl : j = k := by omega
            rw [← HPQ.out]; exact hf
        go_wp2_with (first | (go_at_call 84; refine (implLambda _ _ _).mono ?_; rintro e w1 ⟨rfl, hb1⟩; obtain ⟨hc1, hf1⟩ := bcell hb1; have hz1 := hb1.size; (try simp at hz1); (try have hy0 := Nat.lt_of_succ_le hz1); (try have hy1 := Nat.lt_of_succ_lt hy0); (try have hy2 := Nat.lt_of_succ_lt hy1); (try have hy3 := Nat.lt_of_succ_lt hy2); (try have hv0 : w.heap.size < w1.heap.size := by omega); (try have hv1 : w.heap.size + 1 < w1.heap.size := by omega); (try have hv2 : w.heap.size + 1 + 1 < w1.heap.size := by omega); have HB := Lib.hid (below_pair (w := w) (by repeat (first | exact Below.refl _ _ | (with_reducible assumption) | exact HB.out | apply below_alloc | apply pw_below_drewN | apply below_drew | refine below_set ?_ (by first | omega | (simp; done) | (simp; omega)) | assumption)) hb1); clear hb1))
        go_roundw
        case rel => exact ⟨k + 1, by omega, by go_num, hall', HB⟩
        case measure => simp [intOf]; omega
    · have hyes := Lib.hid (show allFr l = true by
        rw [allFr, List.all_eq_true]
        intro x hx
        obtain ⟨j, hj, rfl⟩ := List.getElem_of_mem hx
        have := hall.out j (by omega)
        rwa [List.getD_eq_getElem?_getD, List.getElem?_eq_getElem hj] at this)
      go_wp2
      go_ret
      exact ⟨⟨-1, rfl, by rw [hyes.out]; simp⟩, by repeat (first | exact Below.refl _ _ | (with_reducible assumption) | exact HB.out | apply below_alloc | apply pw_below_drewN | apply below_drew | refine below_set ?_ (by first | omega | (simp; done) | (simp; omega)) | assumption)⟩

theorem not_neg {r : Int} {b : Bool} (h : r < 0 ↔ b = true) : decide (0 ≤ r) = !b := by
  cases b <;> simp at h <;> simp <;> omega

theorem implContainsFunc (A : Option Addr) (c : Nat) (l : List Fr) (w : World) (hm : l.length ≤ 9223372036854775807) (hr : (Kd.pair (.int .i64) (.int .i64)).C w A l.length l) :
    Calls Try.prog 83 #[.slice A l.length c, .func (.func 84) #[] #[]] w fun e w' => e = .returned (.bool (!allFr l)) ∧ Below w.heap.size w w' := by
  have HR := Lib.hid hr
  clear hr
  go_enter Try.func83, Try.ntmps83
  go_wp2_with (first | (go_at_call 86; refine (implIndexFunc _ _ _ _ hm HR.out).mono ?_; rintro e w1 ⟨⟨r, rfl, hr⟩, HB⟩; replace hr := Lib.hid (not_neg hr); replace HB := Lib.hid HB))
  go_ret
  exact ⟨ret_bool hr.out, by repeat (first | exact Below.refl _ _ | (with_reducible assumption) | exact HB.out | apply below_alloc | apply pw_below_drewN | apply below_drew | refine below_set ?_ (by first | omega | (simp; done) | (simp; omega)) | assumption)⟩

theorem implAreFractions (A : Option Addr) (c : Nat) (l : List Fr) (w : World) (hm : l.length ≤ 9223372036854775807) (hr : (Kd.pair (.int .i64) (.int .i64)).C w A l.length l) :
    Calls Try.prog 73 #[.slice A l.length c] w fun e w' => e = .returned (.bool (allFr l)) ∧ Below w.heap.size w w' := by
  have HR := Lib.hid hr
  clear hr
  go_enter Try.func73, Try.ntmps73
  go_wp2_with (first | (go_at_call 83; refine (implContainsFunc _ _ _ _ hm HR.out).mono ?_; rintro e w1 ⟨rfl, HB⟩; replace HB := Lib.hid HB))
  go_ret
  exact ⟨ret_bool (by simp), by repeat (first | exact Below.refl _ _ | (with_reducible assumption) | exact HB.out | apply below_alloc | apply pw_below_drewN | apply below_drew | refine below_set ?_ (by first | omega | (simp; done) | (simp; omega)) | assumption)⟩

theorem two_reads (V : World) (g t : Nat) (x1 x2 y1 y2 : Int) (hg : V.heap.size = g) : (Kd.pair (.int .i64) (.int .i64)).C (V.alloc (.cells #[.int .i64 x1, .int .i64 x2, .int .i64 y1, .int .i64 y2] t)) (some ⟨g, 0, none⟩) [(x1, x2), (y1, y2)].length [(x1, x2), (y1, y2)] := by
  subst hg
  refine ⟨rfl, by simp, fun _ => ⟨_, rfl, fun j p hj => ?_⟩⟩
  have h0 : ∀ (i : Nat) u, #[Value.int .i64 x1, .int .i64 x2, .int .i64 y1, .int .i64 y2][i]? = some u → (V.alloc (.cells #[.int .i64 x1, .int .i64 x2, .int .i64 y1, .int .i64 y2] t)).cell? ⟨V.heap.size, i, none⟩ = some u := fun i u h => (blk_cell (blk_new _ _) i).trans h
  match j, hj with
  | 0, hj =>
    obtain rfl : (x1, x2) = p := by simpa using hj
    refine ⟨[.int .i64 x1] ++ [.int .i64 x2], rfl, ⟨[.int .i64 x1], [.int .i64 x2], rfl, rfl, rfl⟩, fun i u hu => ?_⟩
    rw [add_plain]
    match i, hu with
    | 0, hu => exact h0 0 u (by simpa using hu)
    | 1, hu => exact h0 1 u (by simpa using hu)
    | i + 2, hu => simp at hu
  | 1, hj =>
    obtain rfl : (y1, y2) = p := by simpa using hj
    refine ⟨[.int .i64 y1] ++ [.int .i64 y2], rfl, ⟨[.int .i64 y1], [.int .i64 y2], rfl, rfl, rfl⟩, fun i u hu => ?_⟩
    rw [add_plain]
    match i, hu with
    | 0, hu => exact h0 2 u (by simpa using hu)
    | 1, hu => exact h0 3 u (by simpa using hu)
    | i + 2, hu => simp at hu
  | j + 2, hj => simp at hj
end Go.Proofs.Ytmjomedmpokbcaa.H
