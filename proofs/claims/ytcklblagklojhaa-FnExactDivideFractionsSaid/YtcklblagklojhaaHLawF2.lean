/- The laws on AddFractions, MultiplyFractions and DivideFractions hold: their calls return true. Conditions: none. -/
import Derived.Test.YtcklblagklojhaaHLawF
import Derived.Deep.RegionHeld3
import Derived.Deep.DeepCutAuto
namespace Go.Proofs.Ytcklblagklojhaa.H
open Go.RowKit Go.Proofs.YtcklblagklojhaaW.PrintWords Go.Proofs.YtcklblagklojhaaW.PrintLast Go.Proofs.YtcklblagklojhaaW.PrintMore Go.Proofs.Ytcklblagklojhaa.M
set_option linter.unusedVariables false
set_option linter.unusedSimpArgs false
set_option maxHeartbeats 4000000 in
theorem lawDivideFractions (a b c d : Int) (w : World) : Calls Try.prog 3 #[.agg #[.int .i64 a, .int .i64 b], .agg #[.int .i64 c, .int .i64 d]] w fun e w' => e = .returned (.bool true) ∧ Below w.heap.size w w' := by
  go_enter Try.func3, Try.ntmps3
  go_upto_region 1 with fail
  obtain ⟨V, hV⟩ : ∃ V : World, V = (w.alloc (.cells #[.int .i64 a, .int .i64 b] 23)).alloc (.cells #[.int .i64 c, .int .i64 d] 23) := ⟨_, rfl⟩
  have h0 : V.cell? ⟨w.heap.size, 0, none⟩ = some (.int .i64 a) := by rw [hV]; simp
  have h1 : V.cell? ⟨w.heap.size, 1, none⟩ = some (.int .i64 b) := by rw [hV]; simp
  have h2 : V.cell? ⟨w.heap.size + 1, 0, none⟩ = some (.int .i64 c) := by rw [hV]; simp
  have h3 : V.cell? ⟨w.heap.size + 1, 1, none⟩ = some (.int .i64 d) := by rw [hV]; simp
  have HV := Lib.hid (show Below w.heap.size w V by rw [hV]; repeat (first | exact Below.refl _ _ | (with_reducible assumption) | exact HB.out | apply below_alloc | apply pw_below_drewN | apply below_drew | refine below_set ?_ (by first | omega | (simp; done) | (simp; omega)) | assumption))
  rw [← hV]
  clear hV
  go_cut [5, 6] (fun s5 s6 wx => ∃ g : Nat, s5 = .pointer (some ⟨g, 0, none⟩) ∧ s6 = .int .i64 (divF (a, b) (c, d)).2 ∧ V.heap.size ≤ g ∧ wx.cell? ⟨g, 0, none⟩ = some (.int .i64 (divF (a, b) (c, d)).1.1) ∧ wx.cell? ⟨g, 1, none⟩ = some (.int .i64 (divF (a, b) (c, d)).1.2) ∧ Hid (Below V.heap.size V wx))
  case first =>
    go_region_held3 (fun w' => Hid (Below V.heap.size V w') ∧ w'.cell? ⟨w.heap.size, 0, none⟩ = some (.int .i64 a) ∧ w'.cell? ⟨w.heap.size, 1, none⟩ = some (.int .i64 b) ∧ w'.cell? ⟨w.heap.size + 1, 0, none⟩ = some (.int .i64 c) ∧ w'.cell? ⟨w.heap.size + 1, 1, none⟩ = some (.int .i64 d)) ((refine keep4 ?_ h0 h1 h2 h3; (first | exact Below.refl _ _ | ((refine below_set (below_set (Hid.out ?_) ?_) ?_) <;> (first | assumption | exact Nat.le_refl _ | (simp; done))) | exact below_drew1 (Below.refl _ _) | ((refine held_call ?_ ?_) <;> assumption) | ((refine held_alloc ?_ _); assumption) | ((refine below_alloc (Hid.out ?_) _); assumption) | exact below_alloc (below_drew1 (Below.refl _ _)) _ | ((refine held_set ?_ ?_ _); assumption; (first | (with_reducible assumption) | exact Nat.le_refl _ | (simp; done))) | ((refine held_drew ?_); assumption) | ((refine Hid.out (And.left ?_)); assumption) | ((refine Hid.out ?_); assumption))))
      (first | (go_at_call 31; refine (lawToFraction _ _ _).mono ?_; rintro e w1 ⟨rfl, hb1⟩; have hbV := Lib.hid (held_call (V := V) (by assumption) hb1); have hsz := hbV.out.size; obtain ⟨hc1, hf1⟩ := bcell hb1; have hz1 := hb1.size; (try simp at hz1); (try have hy0 := Nat.lt_of_succ_le hz1); (try have hv0 : V.heap.size < w1.heap.size := by omega)) | (go_at_call 30; refine (specDivide _ _ _ _ _).mono ?_; rintro e w1 ⟨rfl, hb1⟩; have hbV := Lib.hid (held_call (V := V) (by assumption) hb1); have hsz := hbV.out.size; obtain ⟨hc1, hf1⟩ := bcell hb1; have hz1 := hb1.size; (try simp at hz1); (try have hy0 := Nat.lt_of_succ_le hz1); (try have hv0 : V.heap.size < w1.heap.size := by omega)))
    all_goals
      go_wp2_with fail
      go_meet
      exact ⟨_, rfl, rfl, by first | assumption | exact Nat.le_refl _, by go_simp, by go_simp, by show Below V.heap.size V _; (first | exact Below.refl _ _ | ((refine below_set (below_set (Hid.out ?_) ?_) ?_) <;> (first | assumption | exact Nat.le_refl _ | (simp; done))) | exact below_drew1 (Below.refl _ _) | ((refine held_call ?_ ?_) <;> assumption) | ((refine held_alloc ?_ _); assumption) | ((refine below_alloc (Hid.out ?_) _); assumption) | exact below_alloc (below_drew1 (Below.refl _ _)) _ | ((refine held_set ?_ ?_ _); assumption; (first | (with_reducible assumption) | exact Nat.le_refl _ | (simp; done))) | ((refine held_drew ?_); assumption) | ((refine Hid.out (And.left ?_)); assumption) | ((refine Hid.out ?_); assumption))⟩
  case rest =>
    obtain ⟨g, rfl, rfl, hg, k0, k1, HW⟩ := hcut
    replace h0 := pw_cell_below HW.out h0
    replace h1 := pw_cell_below HW.out h1
    replace h2 := pw_cell_below HW.out h2
    replace h3 := pw_cell_below HW.out h3
    replace HV := Lib.hid (show Below w.heap.size w wc from below_pair HV.out HW.out)
    clear HW hg
    go_upto_region 2 with fail
    go_cut [7, 8] (fun s7 s8 wx => ∃ g' : Nat, s7 = .pointer (some ⟨g', 0, none⟩) ∧ s8 = .int .i64 (divF (a, b) (c, d)).2 ∧ wx.cell? ⟨g', 0, none⟩ = some (.int .i64 (divF (a, b) (c, d)).1.1) ∧ wx.cell? ⟨g', 1, none⟩ = some (.int .i64 (divF (a, b) (c, d)).1.2) ∧ Hid (Below wc.heap.size wc wx))
    case first =>
      go_region_held3 (fun w' => Hid (Below wc.heap.size wc w') ∧ w'.cell? ⟨w.heap.size, 0, none⟩ = some (.int .i64 a) ∧ w'.cell? ⟨w.heap.size, 1, none⟩ = some (.int .i64 b) ∧ w'.cell? ⟨w.heap.size + 1, 0, none⟩ = some (.int .i64 c) ∧ w'.cell? ⟨w.heap.size + 1, 1, none⟩ = some (.int .i64 d)) ((refine keep4 ?_ h0 h1 h2 h3; (first | exact Below.refl _ _ | ((refine below_set (below_set (Hid.out ?_) ?_) ?_) <;> (first | assumption | exact Nat.le_refl _ | (simp; done))) | exact below_drew1 (Below.refl _ _) | ((refine held_call ?_ ?_) <;> assumption) | ((refine held_alloc ?_ _); assumption) | ((refine below_alloc (Hid.out ?_) _); assumption) | exact below_alloc (below_drew1 (Below.refl _ _)) _ | ((refine held_set ?_ ?_ _); assumption; (first | (with_reducible assumption) | exact Nat.le_refl _ | (simp; done))) | ((refine held_drew ?_); assumption) | ((refine Hid.out (And.left ?_)); assumption) | ((refine Hid.out ?_); assumption))))
        (first | (go_at_call 31; refine (lawToFraction _ _ _).mono ?_; rintro e w1 ⟨rfl, hb1⟩; have hbV := Lib.hid (held_call (V := wc) (by assumption) hb1); have hsz := hbV.out.size; obtain ⟨hc1, hf1⟩ := bcell hb1; have hz1 := hb1.size; (try simp at hz1); (try have hy0 := Nat.lt_of_succ_le hz1); (try have hv0 : wc.heap.size < w1.heap.size := by omega)) | (go_at_call 32; refine (implDivide _ _ _ _ _).mono ?_; rintro e w1 ⟨rfl, hb1⟩; have hbV := Lib.hid (held_call (V := wc) (by assumption) hb1); have hsz := hbV.out.size; obtain ⟨hc1, hf1⟩ := bcell hb1; have hz1 := hb1.size; (try simp at hz1); (try have hy0 := Nat.lt_of_succ_le hz1); (try have hv0 : wc.heap.size < w1.heap.size := by omega)))
      all_goals
        go_wp2_with fail
        go_meet
        exact ⟨_, rfl, rfl, by go_simp, by go_simp, by show Below wc.heap.size wc _; (first | exact Below.refl _ _ | ((refine below_set (below_set (Hid.out ?_) ?_) ?_) <;> (first | assumption | exact Nat.le_refl _ | (simp; done))) | exact below_drew1 (Below.refl _ _) | ((refine held_call ?_ ?_) <;> assumption) | ((refine held_alloc ?_ _); assumption) | ((refine below_alloc (Hid.out ?_) _); assumption) | exact below_alloc (below_drew1 (Below.refl _ _)) _ | ((refine held_set ?_ ?_ _); assumption; (first | (with_reducible assumption) | exact Nat.le_refl _ | (simp; done))) | ((refine held_drew ?_); assumption) | ((refine Hid.out (And.left ?_)); assumption) | ((refine Hid.out ?_); assumption))⟩
    case rest =>
      obtain ⟨g', rfl, rfl, l0, l1, HW⟩ := hcut
      replace k0 := pw_cell_below HW.out k0
      replace k1 := pw_cell_below HW.out k1
      have HB := Lib.hid (below_pair HV.out HW.out)
      clear HW HV h0 h1 h2 h3
      go_wp2_with (first | (go_at_call 33; refine (lawEqFraction_same _ _ _).mono ?_; rintro e w1 ⟨rfl, hb1⟩; obtain ⟨hc1, hf1⟩ := bcell hb1; have hz1 := hb1.size; (try simp at hz1); (try have hy0 := Nat.lt_of_succ_le hz1); (try have hy1 := Nat.lt_of_succ_lt hy0); (try have hy2 := Nat.lt_of_succ_lt hy1); (try have hy3 := Nat.lt_of_succ_lt hy2); (try have hv0 : w.heap.size < w1.heap.size := by omega); (try have hv1 : w.heap.size + 1 < w1.heap.size := by omega); (try have hv2 : w.heap.size + 1 + 1 < w1.heap.size := by omega); have HB := Lib.hid (below_pair (w := w) (by repeat (first | exact Below.refl _ _ | (with_reducible assumption) | exact HB.out | apply below_alloc | apply pw_below_drewN | apply below_drew | refine below_set ?_ (by first | omega | (simp; done) | (simp; omega)) | assumption)) hb1); clear hb1))
      go_ret
      exact ⟨rfl, by repeat (first | exact Below.refl _ _ | (with_reducible assumption) | exact HB.out | apply below_alloc | apply pw_below_drewN | apply below_drew | refine below_set ?_ (by first | omega | (simp; done) | (simp; omega)) | assumption)⟩
end Go.Proofs.Ytcklblagklojhaa.H
