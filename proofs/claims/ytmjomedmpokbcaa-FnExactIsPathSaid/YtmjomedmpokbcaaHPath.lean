/- What the program's IsPath returns: proved by walking its code. Conditions: none. -/
import Derived.Test.YtmjomedmpokbcaaHFrac3
import Derived.WalkSpells
namespace Go.Proofs.Ytmjomedmpokbcaa.M
/-- All numbers of a step are from -b to b. -/
def allUp (b : Int) (l : List Int) : Bool := l.all fun x => inR x (-b) b
/-- A step for a letters. -/
def isStep (a : Int) (l : List Int) : Bool := ((l.length : Int) == a) && allUp 100 l
def isPath (a : Int) (l : List (List Int)) : Bool := inR a 1 3 && (decide (l.length ≤ 12) && l.all (isStep a))
end Go.Proofs.Ytmjomedmpokbcaa.M
namespace Go.Proofs.Ytmjomedmpokbcaa.H
open Go.RowKit Go.Proofs.YtmjomedmpokbcaaW.PrintWords Go.Proofs.YtmjomedmpokbcaaW.PrintLast Go.Proofs.YtmjomedmpokbcaaW.PrintMore Go.Proofs.Ytmjomedmpokbcaa.M
attribute [local go_sem] max2_int min2_int max_two min_two max_three min_three max_four min_four
set_option linter.unusedVariables false
set_option linter.unusedSimpArgs false

theorem all_false_at {α : Type} {p : α → Bool} {l : List α} (z : α) (k : Nat) (h : k < l.length) (hf : p (l.getD k z) = false) : l.all p = false := by
  rw [List.all_eq_false]
  refine ⟨l.getD k z, ?_, by rw [hf]; simp⟩
  rw [List.getD_eq_getElem?_getD, List.getElem?_eq_getElem h]; exact List.getElem_mem _
theorem all_true_at {α : Type} {p : α → Bool} {l : List α} (z : α) (h : ∀ j, j < l.length → p (l.getD j z) = true) : l.all p = true := by
  rw [List.all_eq_true]
  intro x hx
  obtain ⟨j, hj, rfl⟩ := List.getElem_of_mem hx
  have := h j hj
  rwa [List.getD_eq_getElem?_getD, List.getElem?_eq_getElem hj] at this

theorem implLetters (a : Int) (w : World) : Calls Try.prog 52 #[.int .i64 a] w fun e w' => e = .returned (.bool (inR a 1 3)) ∧ ∃ n, w' = w.drewN n := by
  go_enter Try.func52, Try.ntmps52
  go_wp2_with (first | (go_at_call 46; refine (implIn _ _ _ _).mono ?_; rintro e w1 ⟨rfl, n, rfl⟩))
  go_ret
  exact ⟨rfl, n, rfl⟩

theorem implUpLambda (a b : Int) (p : Addr) (w : World) (hb : -9223372036854775807 ≤ b) (hb' : b ≤ 9223372036854775807) (hc : w.cell? p = some (.int .i64 b)) :
    Calls Try.prog 82 #[.int .i64 a, .pointer (some p)] w fun e w' => e = .returned (.bool (!inR a (-b) b)) ∧ Below w.heap.size w w' := by
  go_enter Try.func82, Try.ntmps82
  go_wp2_with (first | (go_at_call 47; refine (implUp _ _ _ (by omega) (by omega)).mono ?_; rintro e w1 ⟨rfl, n, rfl⟩))
  go_ret
  exact ⟨rfl, by repeat (first | exact Below.refl _ _ | (with_reducible assumption) | exact HB.out | apply below_alloc | apply pw_below_drewN | apply below_drew | refine below_set ?_ (by first | omega | (simp; done) | (simp; omega)) | assumption)⟩

theorem implIndexInt (A : Option Addr) (c : Nat) (l : List Int) (b : Int) (p : Addr) (w : World) (hb : -9223372036854775807 ≤ b) (hb' : b ≤ 9223372036854775807) (hc : w.cell? p = some (.int .i64 b)) (hm : l.length ≤ 9223372036854775807) (hr : (Kd.int .i64).C w A l.length l) :
    Calls Try.prog 85 #[.slice A l.length c, .func (.func 82) #[] #[.pointer (some p)]] w fun e w' => (∃ r : Int, e = .returned (.int .i64 r) ∧ (r < 0 ↔ allUp b l = true)) ∧ Below w.heap.size w w' := by
  have HR := Lib.hid hr
  have HC := Lib.hid hc
  clear hr hc
  go_enter Try.func85, Try.ntmps85
  go_wp2
  go_loopw [8] (fun x w' => ∃ k : Nat, k ≤ l.length ∧ x = .int .i64 (k : Int) ∧ Hid (∀ j, j < k → inR (l.getD j 0) (-b) b = true) ∧ Hid (Below w.heap.size w w')) (fun x _ => l.length - (intOf x).toNat)
  case atStart => exact ⟨0, by omega, rfl, fun j hj => by omega, Below.refl _ _⟩
  case round =>
    obtain ⟨k, hk, rfl, hall, HB⟩ := hrel
    by_cases hlt : k < l.length
    · obtain ⟨ad, rfl, hx⟩ := Kd.at_int HR.out (k : Int) (by omega) (by omega)
      replace hx := (HB.out.cell (World.block_lt_of_cell? w _ hx)).trans hx
      have hc1 := (HB.out.cell (World.block_lt_of_cell? w _ HC.out)).trans HC.out
      obtain ⟨y, hy⟩ : ∃ y, y = l.getD k 0 := ⟨_, rfl⟩
      replace hx : wr.cell? (ad.add k) = some (.int .i64 y) := by rw [hy]; exact hx
      have HY := Lib.hid hy
      clear hy
      cases hf : inR y (-b) b with
      | false =>
        have hno := Lib.hid (show allUp b l = false from all_false_at 0 k hlt (by rw [← HY.out]; exact hf))
        go_wp2_with (first | (go_at_call 82; refine (implUpLambda _ _ _ _ hb hb' hc1).mono ?_; rintro e w1 ⟨rfl, hb1⟩; obtain ⟨hc1, hf1⟩ := bcell hb1; have hz1 := hb1.size; (try simp at hz1); (try have hy0 := Nat.lt_of_succ_le hz1); (try have hy1 := Nat.lt_of_succ_lt hy0); (try have hy2 := Nat.lt_of_succ_lt hy1); (try have hy3 := Nat.lt_of_succ_lt hy2); (try have hv0 : w.heap.size < w1.heap.size := by omega); (try have hv1 : w.heap.size + 1 < w1.heap.size := by omega); (try have hv2 : w.heap.size + 1 + 1 < w1.heap.size := by omega); have HB := Lib.hid (below_pair (w := w) (by repeat (first | exact Below.refl _ _ | (with_reducible assumption) | exact HB.out | apply below_alloc | apply pw_below_drewN | apply below_drew | refine below_set ?_ (by first | omega | (simp; done) | (simp; omega)) | assumption)) hb1); clear hb1))
        go_ret
        exact ⟨⟨k, rfl, by rw [hno.out]; constructor <;> intro h <;> first | omega | cases h⟩, by repeat (first | exact Below.refl _ _ | (with_reducible assumption) | exact HB.out | apply below_alloc | apply pw_below_drewN | apply below_drew | refine below_set ?_ (by first | omega | (simp; done) | (simp; omega)) | assumption)⟩
      | true =>
        have hall' : Hid (∀ j, j < k + 1 → inR (l.getD j 0) (-b) b = true) := fun j hj => by
          rcases Nat.lt_or_ge j k with h | h
          · exact hall.out j h
          · obtain rfl : j = k := by omega
            rw [← HY.out]; exact hf
        go_wp2_with (first | (go_at_call 82; refine (implUpLambda _ _ _ _ hb hb' hc1).mono ?_; rintro e w1 ⟨rfl, hb1⟩; obtain ⟨hc1, hf1⟩ := bcell hb1; have hz1 := hb1.size; (try simp at hz1); (try have hy0 := Nat.lt_of_succ_le hz1); (try have hy1 := Nat.lt_of_succ_lt hy0); (try have hy2 := Nat.lt_of_succ_lt hy1); (try have hy3 := Nat.lt_of_succ_lt hy2); (try have hv0 : w.heap.size < w1.heap.size := by omega); (try have hv1 : w.heap.size + 1 < w1.heap.size := by omega); (try have hv2 : w.heap.size + 1 + 1 < w1.heap.size := by omega); have HB := Lib.hid (below_pair (w := w) (by repeat (first | exact Below.refl _ _ | (with_reducible assumption) | exact HB.out | apply below_alloc | apply pw_below_drewN | apply below_drew | refine below_set ?_ (by first | omega | (simp; done) | (simp; omega)) | assumption)) hb1); clear hb1))
        go_roundw
        case rel => exact ⟨k + 1, by omega, by go_num, hall', HB⟩
        case measure => simp [intOf]; omega
    · have hyes := Lib.hid (show allUp b l = true from all_true_at 0 fun j hj => hall.out j (by omega))
      go_wp2
      go_ret
      exact ⟨⟨-1, rfl, by rw [hyes.out]; simp⟩, by repeat (first | exact Below.refl _ _ | (with_reducible assumption) | exact HB.out | apply below_alloc | apply pw_below_drewN | apply below_drew | refine below_set ?_ (by first | omega | (simp; done) | (simp; omega)) | assumption)⟩

theorem implContainsInt (A : Option Addr) (c : Nat) (l : List Int) (b : Int) (p : Addr) (w : World) (hb : -9223372036854775807 ≤ b) (hb' : b ≤ 9223372036854775807) (hc : w.cell? p = some (.int .i64 b)) (hm : l.length ≤ 9223372036854775807) (hr : (Kd.int .i64).C w A l.length l) :
    Calls Try.prog 81 #[.slice A l.length c, .func (.func 82) #[] #[.pointer (some p)]] w fun e w' => e = .returned (.bool (!allUp b l)) ∧ Below w.heap.size w w' := by
  have HR := Lib.hid hr
  have HC := Lib.hid hc
  clear hr hc
  go_enter Try.func81, Try.ntmps81
  go_wp2_with (first | (go_at_call 85; refine (implIndexInt _ _ _ _ _ _ hb hb' HC.out hm HR.out).mono ?_; rintro e w1 ⟨⟨r, rfl, hr⟩, HB⟩; replace hr := Lib.hid (not_neg hr); replace HB := Lib.hid HB))
  go_ret
  exact ⟨ret_bool hr.out, by repeat (first | exact Below.refl _ _ | (with_reducible assumption) | exact HB.out | apply below_alloc | apply pw_below_drewN | apply below_drew | refine below_set ?_ (by first | omega | (simp; done) | (simp; omega)) | assumption)⟩

theorem implAllUpTo (A : Option Addr) (c : Nat) (l : List Int) (b : Int) (w : World) (hb : -9223372036854775807 ≤ b) (hb' : b ≤ 9223372036854775807) (hm : l.length ≤ 9223372036854775807) (hr : (Kd.int .i64).C w A l.length l) :
    Calls Try.prog 69 #[.slice A l.length c, .int .i64 b] w fun e w' => e = .returned (.bool (allUp b l)) ∧ Below w.heap.size w w' := by
  have HR := Lib.hid (Kd.C_alloc hr (.cells #[.int .i64 b] 2))
  clear hr
  go_enter Try.func69, Try.ntmps69
  go_wp2_with (first | (go_at_call 81; go_must (refine (implContainsInt _ _ _ b ⟨w.heap.size, 0, none⟩ _ hb hb' (by simp) hm HR.out).mono ?_); rintro e w1 ⟨rfl, hb1⟩; obtain ⟨hc1, hf1⟩ := bcell hb1; have hz1 := hb1.size; (try simp at hz1); (try have hy0 := Nat.lt_of_succ_le hz1); (try have hy1 := Nat.lt_of_succ_lt hy0); (try have hy2 := Nat.lt_of_succ_lt hy1); (try have hy3 := Nat.lt_of_succ_lt hy2); (try have hv0 : w.heap.size < w1.heap.size := by omega); (try have hv1 : w.heap.size + 1 < w1.heap.size := by omega); (try have hv2 : w.heap.size + 1 + 1 < w1.heap.size := by omega); have HB := Lib.hid (below_pair (w := w) (by repeat (first | exact Below.refl _ _ | (with_reducible assumption) | exact HB.out | apply below_alloc | apply pw_below_drewN | apply below_drew | refine below_set ?_ (by first | omega | (simp; done) | (simp; omega)) | assumption)) hb1); clear hb1))
  go_ret
  exact ⟨ret_bool (by simp), by repeat (first | exact Below.refl _ _ | (with_reducible assumption) | exact HB.out | apply below_alloc | apply pw_below_drewN | apply below_drew | refine below_set ?_ (by first | omega | (simp; done) | (simp; omega)) | assumption)⟩

theorem at_rows {e : Nat} {w : World} {A : Option Addr} {n : Nat} {l : List (List Int)} (h : (Kd.slice e (Kd.int .i64)).C w A n l) (k : Nat) (hk : k < n) :
    ∃ ad A0 c0, A = some ad ∧ w.cell? (ad.add k) = some (.slice A0 (l.getD k []).length c0) ∧ (l.getD k []).length ≤ c0 ∧ (Kd.int .i64).C w A0 (l.getD k []).length (l.getD k []) := by
  obtain ⟨ad, c, e1, _, hK, hc0⟩ := Kd.C_get h ([] : List Int) (k : Int) (by omega) (by omega)
  rw [Int.toNat_natCast] at hK hc0
  have hc : ∀ j u, c[j]? = some u → w.cell? (ad.add (k * 1 + j)) = some u := hc0
  obtain ⟨A0, c0, rfl, l0, g0⟩ := hK
  exact ⟨ad, A0, c0, e1, by have hq := hc 0 _ rfl; rwa [Nat.mul_one, Nat.add_zero] at hq, l0, g0⟩

theorem implStepLambda (A : Option Addr) (c : Nat) (l : List Int) (a : Int) (p : Addr) (w : World) (hm : l.length ≤ 9223372036854775807) (hr : (Kd.int .i64).C w A l.length l) (hc : w.cell? p = some (.int .i64 a)) :
    Calls Try.prog 68 #[.slice A l.length c, .pointer (some p)] w fun e w' => e = .returned (.bool (!isStep a l)) ∧ Below w.heap.size w w' := by
  have HR := Lib.hid hr
  clear hr
  by_cases hl : (l.length : Int) = a
  · have h1 : ((l.length : Int) != a) = false := by rw [bne_eq_false_iff_eq]; exact hl
    have hf := Lib.hid (show isStep a l = allUp 100 l by unfold isStep; rw [hl, beq_self_eq_true, Bool.true_and])
    clear hl
    go_enter Try.func68, Try.ntmps68
    go_wp2_with (first | (go_at_call 69; refine (implAllUpTo _ _ _ _ _ (by omega) (by omega) hm HR.out).mono ?_; rintro e w1 ⟨rfl, hb1⟩; obtain ⟨hc1, hf1⟩ := bcell hb1; have hz1 := hb1.size; (try simp at hz1); (try have hy0 := Nat.lt_of_succ_le hz1); (try have hy1 := Nat.lt_of_succ_lt hy0); (try have hy2 := Nat.lt_of_succ_lt hy1); (try have hy3 := Nat.lt_of_succ_lt hy2); (try have hv0 : w.heap.size < w1.heap.size := by omega); (try have hv1 : w.heap.size + 1 < w1.heap.size := by omega); (try have hv2 : w.heap.size + 1 + 1 < w1.heap.size := by omega); have HB := Lib.hid (below_pair (w := w) (by repeat (first | exact Below.refl _ _ | (with_reducible assumption) | exact HB.out | apply below_alloc | apply pw_below_drewN | apply below_drew | refine below_set ?_ (by first | omega | (simp; done) | (simp; omega)) | assumption)) hb1); clear hb1))
    go_ret
    exact ⟨ret_bool (by rw [hf.out]), by repeat (first | exact Below.refl _ _ | (with_reducible assumption) | exact HB.out | apply below_alloc | apply pw_below_drewN | apply below_drew | refine below_set ?_ (by first | omega | (simp; done) | (simp; omega)) | assumption)⟩
  · have h1 : ((l.length : Int) != a) = true := by rw [bne_iff_ne]; exact hl
    have hf := Lib.hid (show isStep a l = false by unfold isStep; rw [beq_false_of_ne hl, Bool.false_and])
    clear hl
    go_enter Try.func68, Try.ntmps68
    go_wp2_with (first | (go_at_call 69; refine (implAllUpTo _ _ _ _ _ (by omega) (by omega) hm HR.out).mono ?_; rintro e w1 ⟨rfl, hb1⟩; obtain ⟨hc1, hf1⟩ := bcell hb1; have hz1 := hb1.size; (try simp at hz1); (try have hy0 := Nat.lt_of_succ_le hz1); (try have hy1 := Nat.lt_of_succ_lt hy0); (try have hy2 := Nat.lt_of_succ_lt hy1); (try have hy3 := Nat.lt_of_succ_lt hy2); (try have hv0 : w.heap.size < w1.heap.size := by omega); (try have hv1 : w.heap.size + 1 < w1.heap.size := by omega); (try have hv2 : w.heap.size + 1 + 1 < w1.heap.size := by omega); have HB := Lib.hid (below_pair (w := w) (by repeat (first | exact Below.refl _ _ | (with_reducible assumption) | exact HB.out | apply below_alloc | apply pw_below_drewN | apply below_drew | refine below_set ?_ (by first | omega | (simp; done) | (simp; omega)) | assumption)) hb1); clear hb1))
    go_ret
    exact ⟨ret_bool (by rw [hf.out]; rfl), by repeat (first | exact Below.refl _ _ | (with_reducible assumption) | exact HB.out | apply below_alloc | apply pw_below_drewN | apply below_drew | refine below_set ?_ (by first | omega | (simp; done) | (simp; omega)) | assumption)⟩

theorem implIndexRows (A : Option Addr) (c : Nat) (l : List (List Int)) (a : Int) (p : Addr) (w : World) (hc : w.cell? p = some (.int .i64 a)) (hm : l.length ≤ 9223372036854775807) (hr : (Kd.slice 2 (Kd.int .i64)).C w A l.length l) :
    Calls Try.prog 80 #[.slice A l.length c, .func (.func 68) #[] #[.pointer (some p)]] w fun e w' => (∃ r : Int, e = .returned (.int .i64 r) ∧ (r < 0 ↔ l.all (isStep a) = true)) ∧ Below w.heap.size w w' := by
  have HR := Lib.hid hr
  have HC := Lib.hid hc
  clear hr hc
  go_enter Try.func80, Try.ntmps80
  go_wp2
  go_loopw [8] (fun x w' => ∃ k : Nat, k ≤ l.length ∧ x = .int .i64 (k : Int) ∧ Hid (∀ j, j < k → isStep a (l.getD j []) = true) ∧ Hid (Below w.heap.size w w')) (fun x _ => l.length - (intOf x).toNat)
  case atStart => exact ⟨0, by omega, rfl, fun j hj => by omega, Below.refl _ _⟩
  case round =>
    obtain ⟨k, hk, rfl, hall, HB⟩ := hrel
    by_cases hlt : k < l.length
    · obtain ⟨ad, A0, c0, rfl, hx, _, hr0⟩ := at_rows HR.out k hlt
      replace hx := (HB.out.cell (World.block_lt_of_cell? w _ hx)).trans hx
      have hc1 := (HB.out.cell (World.block_lt_of_cell? w _ HC.out)).trans HC.out
      have hr1 := Kd.C_below hr0 HB.out
      have hm1 := Kd.C_max hr1
      clear hr0
      obtain ⟨y, hy⟩ : ∃ y, y = l.getD k [] := ⟨_, rfl⟩
      rw [← hy] at hx hr1 hm1
      have HY := Lib.hid hy
      have HR1 := Lib.hid hr1
      clear hy hr1
      cases hf : isStep a y with
      | false =>
        have hno := Lib.hid (show l.all (isStep a) = false from all_false_at [] k hlt (by rw [← HY.out]; exact hf))
        go_wp2_with (first | (go_at_call 68; refine (implStepLambda _ _ _ _ _ _ hm1 HR1.out hc1).mono ?_; rintro e w1 ⟨rfl, hb1⟩; obtain ⟨hc1, hf1⟩ := bcell hb1; have hz1 := hb1.size; (try simp at hz1); (try have hy0 := Nat.lt_of_succ_le hz1); (try have hy1 := Nat.lt_of_succ_lt hy0); (try have hy2 := Nat.lt_of_succ_lt hy1); (try have hy3 := Nat.lt_of_succ_lt hy2); (try have hv0 : w.heap.size < w1.heap.size := by omega); (try have hv1 : w.heap.size + 1 < w1.heap.size := by omega); (try have hv2 : w.heap.size + 1 + 1 < w1.heap.size := by omega); have HB := Lib.hid (below_pair (w := w) (by repeat (first | exact Below.refl _ _ | (with_reducible assumption) | exact HB.out | apply below_alloc | apply pw_below_drewN | apply below_drew | refine below_set ?_ (by first | omega | (simp; done) | (simp; omega)) | assumption)) hb1); clear hb1))
        go_ret
        exact ⟨⟨k, rfl, by rw [hno.out]; constructor <;> intro h <;> first | omega | cases h⟩, by repeat (first | exact Below.refl _ _ | (with_reducible assumption) | exact HB.out | apply below_alloc | apply pw_below_drewN | apply below_drew | refine below_set ?_ (by first | omega | (simp; done) | (simp; omega)) | assumption)⟩
      | true =>
        have hall' : Hid (∀ j, j < k + 1 → isStep a (l.getD j []) = true) := fun j hj => by
          rcases Nat.lt_or_ge j k with h | h
          · exact hall.out j h
          · obtain rfl : j = k := by omega
            rw [← HY.out]; exact hf
        go_wp2_with (first | (go_at_call 68; refine (implStepLambda _ _ _ _ _ _ hm1 HR1.out hc1).mono ?_; rintro e w1 ⟨rfl, hb1⟩; obtain ⟨hc1, hf1⟩ := bcell hb1; have hz1 := hb1.size; (try simp at hz1); (try have hy0 := Nat.lt_of_succ_le hz1); (try have hy1 := Nat.lt_of_succ_lt hy0); (try have hy2 := Nat.lt_of_succ_lt hy1); (try have hy3 := Nat.lt_of_succ_lt hy2); (try have hv0 : w.heap.size < w1.heap.size := by omega); (try have hv1 : w.heap.size + 1 < w1.heap.size := by omega); (try have hv2 : w.heap.size + 1 + 1 < w1.heap.size := by omega); have HB := Lib.hid (below_pair (w := w) (by repeat (first | exact Below.refl _ _ | (with_reducible assumption) | exact HB.out | apply below_alloc | apply pw_below_drewN | apply below_drew | refine below_set ?_ (by first | omega | (simp; done) | (simp; omega)) | assumption)) hb1); clear hb1))
        go_roundw
        case rel => exact ⟨k + 1, by omega, by go_num, hall', HB⟩
        case measure => simp [intOf]; omega
    · have hyes := Lib.hid (show l.all (isStep a) = true from all_true_at [] fun j hj => hall.out j (by omega))
      go_wp2
      go_ret
      exact ⟨⟨-1, rfl, by rw [hyes.out]; simp⟩, by repeat (first | exact Below.refl _ _ | (with_reducible assumption) | exact HB.out | apply below_alloc | apply pw_below_drewN | apply below_drew | refine below_set ?_ (by first | omega | (simp; done) | (simp; omega)) | assumption)⟩

theorem implContainsRows (A : Option Addr) (c : Nat) (l : List (List Int)) (a : Int) (p : Addr) (w : World) (hc : w.cell? p = some (.int .i64 a)) (hm : l.length ≤ 9223372036854775807) (hr : (Kd.slice 2 (Kd.int .i64)).C w A l.length l) :
    Calls Try.prog 67 #[.slice A l.length c, .func (.func 68) #[] #[.pointer (some p)]] w fun e w' => e = .returned (.bool (!l.all (isStep a))) ∧ Below w.heap.size w w' := by
  have HR := Lib.hid hr
  have HC := Lib.hid hc
  clear hr hc
  go_enter Try.func67, Try.ntmps67
  go_wp2_with (first | (go_at_call 80; refine (implIndexRows _ _ _ _ _ _ HC.out hm HR.out).mono ?_; rintro e w1 ⟨⟨r, rfl, hr⟩, HB⟩; replace hr := Lib.hid (not_neg hr); replace HB := Lib.hid HB))
  go_ret
  exact ⟨ret_bool hr.out, by repeat (first | exact Below.refl _ _ | (with_reducible assumption) | exact HB.out | apply below_alloc | apply pw_below_drewN | apply below_drew | refine below_set ?_ (by first | omega | (simp; done) | (simp; omega)) | assumption)⟩

theorem implIsPath (a : Int) (A : Option Addr) (c : Nat) (l : List (List Int)) (w : World) (hm : l.length ≤ 9223372036854775807) (hr : (Kd.slice 2 (Kd.int .i64)).C w A l.length l) :
    Calls Try.prog 34 #[.int .i64 a, .slice A l.length c] w fun e w' => e = .returned (.bool (isPath a l)) ∧ Below w.heap.size w w' := by
  have HR := Aside0.mk hr
  clear hr
  cases h1 : inR a 1 3 with
  | false =>
    have hf := Lib.hid (show isPath a l = false by unfold isPath; rw [h1]; rfl)
    go_enter Try.func34, Try.ntmps34
    go_wp2_with (first | (go_at_call 52; refine (implLetters _ _).mono ?_; rintro e w1 ⟨rfl, n, rfl⟩))
    go_ret
    exact ⟨ret_bool hf.out.symm, by repeat (first | exact Below.refl _ _ | (with_reducible assumption) | exact HB.out | apply below_alloc | apply pw_below_drewN | apply below_drew | refine below_set ?_ (by first | omega | (simp; done) | (simp; omega)) | assumption)⟩
  | true =>
    by_cases h2 : l.length ≤ 12
    · have hf := Lib.hid (show isPath a l = l.all (isStep a) by unfold isPath; rw [h1, decide_eq_true h2]; rfl)
      go_enter Try.func34, Try.ntmps34
      go_wp2_with (first | (go_at_call 52; refine (implLetters _ _).mono ?_; rintro e w1 ⟨rfl, n, rfl⟩) | (go_at_call 67; go_must (refine (implContainsRows _ _ _ a ⟨w.heap.size, 0, none⟩ _ (by simp) hm (by (with_reducible repeat (first | apply Kd.R_alloc | apply Kd.R_drewN | apply Kd.R_drew | apply Kd.C_alloc | apply Kd.C_drewN | apply Kd.C_drew)); exact HR.out)).mono ?_); rintro e w1 ⟨rfl, hb1⟩; obtain ⟨hc1, hf1⟩ := bcell hb1; have hz1 := hb1.size; (try simp at hz1); (try have hy0 := Nat.lt_of_succ_le hz1); (try have hy1 := Nat.lt_of_succ_lt hy0); (try have hy2 := Nat.lt_of_succ_lt hy1); (try have hy3 := Nat.lt_of_succ_lt hy2); (try have hv0 : w.heap.size < w1.heap.size := by omega); (try have hv1 : w.heap.size + 1 < w1.heap.size := by omega); (try have hv2 : w.heap.size + 1 + 1 < w1.heap.size := by omega); have HB := Lib.hid (below_pair (w := w) (by repeat (first | exact Below.refl _ _ | (with_reducible assumption) | exact HB.out | apply below_alloc | apply pw_below_drewN | apply below_drew | refine below_set ?_ (by first | omega | (simp; done) | (simp; omega)) | assumption)) hb1); clear hb1))
      go_ret
      exact ⟨ret_bool (by simp [hf.out]), by repeat (first | exact Below.refl _ _ | (with_reducible assumption) | exact HB.out | apply below_alloc | apply pw_below_drewN | apply below_drew | refine below_set ?_ (by first | omega | (simp; done) | (simp; omega)) | assumption)⟩
    · have h3 : decide (l.length ≤ 12) = false := by simpa using h2
      have hf := Lib.hid (show isPath a l = false by unfold isPath; rw [h1, h3]; rfl)
      go_enter Try.func34, Try.ntmps34
      go_wp2_with (first | (go_at_call 52; refine (implLetters _ _).mono ?_; rintro e w1 ⟨rfl, n, rfl⟩))
      go_ret
      exact ⟨ret_bool hf.out.symm, by repeat (first | exact Below.refl _ _ | (with_reducible assumption) | exact HB.out | apply below_alloc | apply pw_below_drewN | apply below_drew | refine below_set ?_ (by first | omega | (simp; done) | (simp; omega)) | assumption)⟩
end Go.Proofs.Ytmjomedmpokbcaa.H
