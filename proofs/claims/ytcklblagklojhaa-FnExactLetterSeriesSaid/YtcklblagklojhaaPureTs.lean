/- Rows of terms: what the law's helpers tell of them. Conditions: none. -/
import Derived.Test.YtcklblagklojhaaL0
import Derived.Test.YtcklblagklojhaaL1
import Derived.Test.YtcklblagklojhaaL2
import Derived.Test.YtcklblagklojhaaL3
import Derived.Test.YtcklblagklojhaaL4
import Derived.Test.YtcklblagklojhaaL5
namespace Go.Proofs.Ytcklblagklojhaa.Pure
open Go.RowKit Go.Proofs.Ytcklblagklojhaa.L Go.Proofs.YtcklblagklojhaaW.PrintWords Go.Proofs.YtcklblagklojhaaW.PrintLast
set_option linter.unusedVariables false
set_option linter.unusedSimpArgs false
namespace TS
theorem wrap_id {x : Int} (h0 : -9223372036854775808 ≤ x) (h1 : x ≤ 9223372036854775807) : wrap64 x = x := by
  unfold wrap64; omega
/-- From a number of rounds on, this is told. -/
def Ev {α : Type} (f : Nat → Option α) (v : α) : Prop := ∃ K, ∀ k, K ≤ k → f k = some v
theorem Ev.of_mono {α : Type} {f : Nat → Option α} {v : α} (hm : ∀ k, LeO (f k) (f (k + 1))) (K : Nat) (h : f K = some v) : Ev f v :=
  ⟨K, fun k hk => by
    obtain ⟨j, rfl⟩ : ∃ j, k = K + j := ⟨k - K, by omega⟩
    clear hk
    induction j with
    | zero => exact h
    | succ j ih => exact hm _ _ ih⟩
theorem Ev.same {α : Type} {f : Nat → Option α} {u v : α} (h : Ev f u) (h' : Ev f v) : u = v := by
  obtain ⟨K, h⟩ := h
  obtain ⟨L, h'⟩ := h'
  exact Option.some.inj ((h (K + L) (by omega)).symm.trans (h' (K + L) (by omega)))
theorem Ev.const {α : Type} (v : α) : Ev (fun _ => some v) v := ⟨0, fun _ _ => rfl⟩
theorem Ev.bind {α β : Type} {f : Nat → Option α} {g : Nat → α → Option β} {a : α} {b : β} (hf : Ev f a) (hg : Ev (fun k => g k a) b) : Ev (fun k => (f k).bind (g k)) b := by
  obtain ⟨K, hf⟩ := hf
  obtain ⟨L, hg⟩ := hg
  exact ⟨K + L, fun k hk => by show (f k).bind (g k) = some b; rw [hf k (by omega)]; exact hg k (by omega)⟩
theorem Ev.succ {α : Type} {f : Nat → Option α} {v : α} (h : Ev (fun k => f (k + 1)) v) : Ev f v := by
  obtain ⟨K, h⟩ := h
  exact ⟨K + 1, fun k hk => by
    obtain ⟨j, rfl⟩ : ∃ j, k = j + 1 := ⟨k - 1, by omega⟩
    exact h j (by omega)⟩
theorem Ev.pick {α : Type} {f : Nat → Option α} {v : α} (h : Ev f v) : ∃ k, f k = some v := let ⟨K, h⟩ := h; ⟨K, h K (Nat.le_refl _)⟩
theorem Ev.at {α : Type} {f : Nat → Option α} {v : α} (h : ∀ k, f k = some v) : Ev f v := ⟨0, fun k _ => h k⟩
theorem eq_l (l : List S77) (hl : l.length ≤ 1000000) (m : Nat) : ∀ (i k : Nat), l.length - i ≤ m → i ≤ l.length → m < k → laws_eqTermS.l0 k l l (i : Int) = some true := by
  induction m with
  | zero =>
    intro i k h1 h2 hk
    obtain ⟨k, rfl⟩ : ∃ m, k = m + 1 := ⟨k - 1, by omega⟩
    simp only [laws_eqTermS.l0]; rw [if_neg (by omega)]
  | succ m ih =>
    intro i k h1 h2 hk
    obtain ⟨k, rfl⟩ : ∃ m, k = m + 1 := ⟨k - 1, by omega⟩
    by_cases hi : i < l.length
    · simp only [laws_eqTermS.l0]
      rw [if_pos (by omega), if_pos (by omega), if_pos (by omega)]
      simp only [laws_eqTerm.f, laws_eqFraction.f, if_true, Option.bind_some]
      rw [wrap_id (by omega) (by omega)]
      exact ih (i + 1) k (by omega) (by omega) (by omega)
    · simp only [laws_eqTermS.l0]; rw [if_neg (by omega)]
theorem eq_s (a b : Int) (l : List S77) (hl : l.length ≤ 1000000) : Ev (fun k => laws_eqSeries.f k a b l a b l) true := ⟨l.length + 1, fun k hk => by
  simp only [laws_eqSeries.f, laws_eqTermS.f, if_true]
  have := eq_l l hl l.length 0 k (by omega) (by omega) (by omega)
  rw [show (0 : Int) = ((0 : Nat) : Int) from rfl, this]
  rfl⟩
theorem eq_fr (a b : Int) : laws_eqFraction.f a b a b = some true := by simp [laws_eqFraction.f]
theorem one_size (a : Int) : (strOfNums [a]).size = 1 := by first | rfl | simp [strOfNums]
theorem text_l (m : Nat) : ∀ (x : Int) (s : ByteArray) (k : Nat), 0 ≤ x → x < 10 ^ m → s.size + m ≤ 1000 → m < k → ∃ t, laws_markText.l0 k x s = some t := by
  induction m with
  | zero =>
    intro x s k h0 h1 hs hk
    obtain ⟨k, rfl⟩ : ∃ m, k = m + 1 := ⟨k - 1, by omega⟩
    simp only [laws_markText.l0]
    rw [if_neg (by omega), if_pos (by omega)]
    exact ⟨_, rfl⟩
  | succ m ih =>
    intro x s k h0 h1 hs hk
    obtain ⟨k, rfl⟩ : ∃ m, k = m + 1 := ⟨k - 1, by omega⟩
    simp only [laws_markText.l0]
    by_cases hx : x > 0
    · rw [if_pos hx]
      simp only [Option.bind_some]
      have hp : x.tdiv 10 < 10 ^ m := by
        rw [Int.tdiv_eq_ediv_of_nonneg h0]
        rw [Int.pow_succ] at h1
        omega
      have h2 : x.tdiv 10 = x / 10 := Int.tdiv_eq_ediv_of_nonneg h0
      rw [if_pos (by rw [one_size]; omega)]
      by_cases hb : x ≤ 9223372036854775807
      · rw [wrap_id (by omega) (by omega)]
        exact ih _ _ k (by omega) hp (by rw [ByteArray.size_append, one_size]; omega) (by omega)
      · have hw : 0 ≤ wrap64 (x.tdiv 10) ∧ wrap64 (x.tdiv 10) < 10 ^ m ∨ ¬ (0 ≤ wrap64 (x.tdiv 10)) := by
          by_cases q : 0 ≤ wrap64 (x.tdiv 10)
          · refine .inl ⟨q, ?_⟩
            have : wrap64 (x.tdiv 10) ≤ x.tdiv 10 := by unfold wrap64 at q ⊢; omega
            omega
          · exact .inr q
        rcases hw with ⟨q0, q1⟩ | q
        · exact ih _ _ k q0 q1 (by rw [ByteArray.size_append, one_size]; omega) (by omega)
        · obtain ⟨k, rfl⟩ : ∃ m, k = m + 1 := ⟨k - 1, by omega⟩
          simp only [laws_markText.l0]
          rw [if_neg (by omega), if_pos (by rw [ByteArray.size_append, one_size]; omega)]
          exact ⟨_, rfl⟩
    · rw [if_neg hx, if_pos (by omega)]
      exact ⟨_, rfl⟩
theorem text (x : Int) (hx : 1 ≤ x) (h1 : x < 10000000) (k : Nat) (hk : 8 ≤ k) : ∃ t, laws_markText.f k x = some t := by
  unfold laws_markText.f
  rw [if_neg (by omega)]
  exact text_l 7 x _ k (by omega) (by omega) (by decide) (by omega)
/-- What marking writes. -/
def T : Nat → Int → Nat → List S77
  | _, _, 0 => []
  | 0, _, _ => []
  | k + 1, x, m + 1 => ⟨(laws_markText.f k x).getD ⟨#[]⟩, ⟨x + 1, x + 1 + 1⟩⟩ :: T k (x + 1 + 1 + 1) m
theorem take_set (l : List S77) (i : Nat) (t : S77) (h : i < l.length) : (l.set i t).take (i + 1) = l.take i ++ [t] := by
  rw [List.take_add_one, List.getElem?_set_self h, List.take_set_of_le (Nat.le_refl _)]; rfl
theorem mark_l (m : Nat) : ∀ (k : Nat) (l : List S77) (x : Int) (i : Nat), l.length = i + m → 1 ≤ x → x + 3 * m ≤ 4000000 → i + m ≤ 1000000 → m + 10 ≤ k → laws_markTermS.l0 k l x (i : Int) = some (x + 3 * m, l.take i ++ T k x m) := by
  induction m with
  | zero =>
    intro k l x i h1 hx h2 h3 hk
    obtain ⟨k, rfl⟩ : ∃ m, k = m + 1 := ⟨k - 1, by omega⟩
    simp only [laws_markTermS.l0]
    rw [if_neg (by omega), T, List.append_nil, List.take_of_length_le (by omega), Int.ofNat_zero, Int.mul_zero, Int.add_zero]
  | succ m ih =>
    intro k l x i h1 hx h2 h3 hk
    obtain ⟨k, rfl⟩ : ∃ m, k = m + 1 := ⟨k - 1, by omega⟩
    obtain ⟨t, ht⟩ := text x hx (by omega) k (by omega)
    simp only [laws_markTermS.l0]
    rw [if_pos (by omega), if_pos (by omega), ht, Option.bind_some, wrap_id (x := x + 1) (by omega) (by omega), wrap_id (x := x + 1 + 1) (by omega) (by omega), wrap_id (x := x + 1 + 1 + 1) (by omega) (by omega), wrap_id (x := (i : Int) + 1) (by omega) (by omega), Int.toNat_natCast]
    have := ih k (l.set i ⟨t, ⟨x + 1, x + 1 + 1⟩⟩) (x + 1 + 1 + 1) (i + 1) (by rw [List.length_set]; omega) (by omega) (by omega) (by omega) (by omega)
    rw [take_set _ _ _ (by omega), List.append_assoc] at this
    refine this.trans ?_
    rw [show x + 1 + 1 + 1 + 3 * (m : Int) = x + 3 * ((m + 1 : Nat) : Int) by omega]
    simp only [T, ht, Option.getD_some, List.singleton_append]
theorem held_l (m : Nat) : ∀ (k : Nat) (l : List S77) (x : Int) (i : Nat), l.length = i + m → l.drop i = T k x m → 1 ≤ x → x + 3 * m ≤ 4000000 → i + m ≤ 1000000 → m + 10 ≤ k → laws_heldTermS.l0 k l x (i : Int) = some (x + 3 * m) := by
  induction m with
  | zero =>
    intro k l x i h1 hd hx h2 h3 hk
    obtain ⟨k, rfl⟩ : ∃ m, k = m + 1 := ⟨k - 1, by omega⟩
    simp only [laws_heldTermS.l0]
    rw [if_neg (by omega), Int.ofNat_zero, Int.mul_zero, Int.add_zero]
  | succ m ih =>
    intro k l x i h1 hd hx h2 h3 hk
    obtain ⟨k, rfl⟩ : ∃ m, k = m + 1 := ⟨k - 1, by omega⟩
    obtain ⟨t, ht⟩ := text x hx (by omega) k (by omega)
    simp only [T, ht, Option.getD_some] at hd
    have hr : rd_T77 l (i : Int) = ⟨t, ⟨x + 1, x + 1 + 1⟩⟩ := by
      unfold rd_T77
      rw [Int.toNat_natCast, List.getD_eq_getElem?_getD, ← Nat.add_zero i, ← List.getElem?_drop, hd]; rfl
    have hd' : l.drop (i + 1) = T k (x + 1 + 1 + 1) m := by rw [← List.drop_drop, hd]; rfl
    simp only [laws_heldTermS.l0]
    rw [if_pos (by omega), if_pos (by omega), ht, Option.bind_some, hr, wrap_id (x := x + 1) (by omega) (by omega), wrap_id (x := x + 1 + 1) (by omega) (by omega), wrap_id (x := x + 1 + 1 + 1) (by omega) (by omega), wrap_id (x := (i : Int) + 1) (by omega) (by omega)]
    simp only [if_true]
    have := ih k l (x + 1 + 1 + 1) (i + 1) (by omega) hd' (by omega) (by omega) (by omega) (by omega)
    refine this.trans ?_
    rw [show x + 1 + 1 + 1 + 3 * (m : Int) = x + 3 * ((m + 1 : Nat) : Int) by omega]
/-- What is marked is held. -/
theorem marks (a b : Int) (l : List S77) (hl : l.length ≤ 1000000) : ∃ m L, Ev (fun k => laws_markSeries.f k a b l 1) (m, L) ∧ Ev (fun k => laws_heldSeries.f k a b L 1) m ∧ ¬ m < 0 ∧ L.length = l.length := by
  have h1 := mark_l l.length (l.length + 10) l 1 0 (by omega) (by omega) (by omega) (by omega) (by omega)
  rw [List.take_zero, List.nil_append] at h1
  have hT : ∀ (m k : Nat) (x : Int), m ≤ k → (T k x m).length = m := by
    intro m
    induction m with
    | zero => intro k x _; cases k <;> rfl
    | succ m ih =>
      intro k x hk
      obtain ⟨k, rfl⟩ : ∃ m, k = m + 1 := ⟨k - 1, by omega⟩
      rw [T, List.length_cons, ih k _ (by omega)]
  have hlen := hT l.length (l.length + 10) 1 (by omega)
  have h2 := held_l l.length (l.length + 10) (T (l.length + 10) 1 l.length) 1 0 (by omega) (by rw [List.drop_zero]) (by omega) (by omega) (by omega) (by omega)
  refine ⟨1 + 3 * (l.length : Int), T (l.length + 10) 1 l.length, ?_, ?_, by omega, hlen⟩
  · refine Ev.of_mono (fun k => laws_markSeries.mono _ _ _ _ k) (l.length + 10) ?_
    simp only [laws_markSeries.f, laws_markTermS.f]
    rw [show (0 : Int) = ((0 : Nat) : Int) from rfl, h1]; rfl
  · refine Ev.of_mono (fun k => laws_heldSeries.mono _ _ _ _ k) (l.length + 10) ?_
    simp only [laws_heldSeries.f, laws_heldTermS.f]
    rw [show (0 : Int) = ((0 : Nat) : Int) from rfl, h2]
    simp only [Option.bind_some]
    rw [if_neg (by omega)]
end TS
end Go.Proofs.Ytcklblagklojhaa.Pure
