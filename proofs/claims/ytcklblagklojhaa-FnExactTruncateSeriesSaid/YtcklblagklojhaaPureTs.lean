/- Rows of terms: what marking them leaves. Conditions: none. -/
import Derived.Test.YtcklblagklojhaaPureEv
import Derived.Test.YtcklblagklojhaaT0
import Derived.Test.YtcklblagklojhaaT2
import Derived.Test.YtcklblagklojhaaT3
import Derived.Test.YtcklblagklojhaaT4
namespace Go.Proofs.Ytcklblagklojhaa.Pure
open Go.RowKit Go.Proofs.Ytcklblagklojhaa.T Go.Proofs.YtcklblagklojhaaW.PrintWords Go.Proofs.YtcklblagklojhaaW.PrintLast
set_option linter.unusedVariables false
set_option linter.unusedSimpArgs false
namespace TS
theorem one_size (a : Int) : (strOfNums [a]).size = 1 := by first | rfl | simp [strOfNums]
theorem text_l (m : Nat) : ∀ (x : Int) (s : ByteArray) (k : Nat), 0 ≤ x → x < 10 ^ m → s.size + m ≤ 1000 → m < k → ∃ t, laws_markText.l0 k x s = some t := by
  induction m with
  | zero =>
    intro x s k h0 h1 hs hk
    obtain ⟨k, rfl⟩ : ∃ m, k = m + 1 := ⟨k - 1, by omega⟩
    simp only [laws_markText.l0]
    rw [if_neg (by omega), if_pos (by omega)]
    exact ⟨_, rfl⟩
  | succ m ih =>
    intro x s k h0 h1 hs hk
    obtain ⟨k, rfl⟩ : ∃ m, k = m + 1 := ⟨k - 1, by omega⟩
    simp only [laws_markText.l0]
    by_cases hx : x > 0
    · rw [if_pos hx]
      simp only [Option.bind_some]
      have hp : x.tdiv 10 < 10 ^ m := by
        rw [Int.tdiv_eq_ediv_of_nonneg h0]
        rw [Int.pow_succ] at h1
        omega
      have h2 : x.tdiv 10 = x / 10 := Int.tdiv_eq_ediv_of_nonneg h0
      rw [if_pos (by rw [one_size]; omega)]
      by_cases hb : x ≤ 9223372036854775807
      · rw [wrap_id (by omega) (by omega)]
        exact ih _ _ k (by omega) hp (by rw [ByteArray.size_append, one_size]; omega) (by omega)
      · have hw : 0 ≤ wrap64 (x.tdiv 10) ∧ wrap64 (x.tdiv 10) < 10 ^ m ∨ ¬ (0 ≤ wrap64 (x.tdiv 10)) := by
          by_cases q : 0 ≤ wrap64 (x.tdiv 10)
          · refine .inl ⟨q, ?_⟩
            have : wrap64 (x.tdiv 10) ≤ x.tdiv 10 := by unfold wrap64 at q ⊢; omega
            omega
          · exact .inr q
        rcases hw with ⟨q0, q1⟩ | q
        · exact ih _ _ k q0 q1 (by rw [ByteArray.size_append, one_size]; omega) (by omega)
        · obtain ⟨k, rfl⟩ : ∃ m, k = m + 1 := ⟨k - 1, by omega⟩
          simp only [laws_markText.l0]
          rw [if_neg (by omega), if_pos (by rw [ByteArray.size_append, one_size]; omega)]
          exact ⟨_, rfl⟩
    · rw [if_neg hx, if_pos (by omega)]
      exact ⟨_, rfl⟩
theorem text (x : Int) (hx : 1 ≤ x) (h1 : x < 10000000) (k : Nat) (hk : 8 ≤ k) : ∃ t, laws_markText.f k x = some t := by
  unfold laws_markText.f
  rw [if_neg (by omega)]
  exact text_l 7 x _ k (by omega) (by omega) (by decide) (by omega)
/-- What marking writes. -/
def T : Nat → Int → Nat → List S77
  | _, _, 0 => []
  | 0, _, _ => []
  | k + 1, x, m + 1 => ⟨(laws_markText.f k x).getD ⟨#[]⟩, ⟨x + 1, x + 1 + 1⟩⟩ :: T k (x + 1 + 1 + 1) m
theorem mark_l (m : Nat) : ∀ (k : Nat) (l : List S77) (x : Int) (i : Nat), l.length = i + m → 1 ≤ x → x + 3 * m ≤ 4000000 → i + m ≤ 1200000 → m + 10 ≤ k → laws_markTermS.l0 k l x (i : Int) = some (x + 3 * m, l.take i ++ T k x m) := by
  induction m with
  | zero =>
    intro k l x i h1 hx h2 h3 hk
    obtain ⟨k, rfl⟩ : ∃ m, k = m + 1 := ⟨k - 1, by omega⟩
    simp only [laws_markTermS.l0]
    rw [if_neg (by omega), T, List.append_nil, List.take_of_length_le (by omega), Int.ofNat_zero, Int.mul_zero, Int.add_zero]
  | succ m ih =>
    intro k l x i h1 hx h2 h3 hk
    obtain ⟨k, rfl⟩ : ∃ m, k = m + 1 := ⟨k - 1, by omega⟩
    obtain ⟨t, ht⟩ := text x hx (by omega) k (by omega)
    simp only [laws_markTermS.l0]
    rw [if_pos (by omega), if_pos (by omega), ht, Option.bind_some, wrap_id (x := x + 1) (by omega) (by omega), wrap_id (x := x + 1 + 1) (by omega) (by omega), wrap_id (x := x + 1 + 1 + 1) (by omega) (by omega), wrap_id (x := (i : Int) + 1) (by omega) (by omega), Int.toNat_natCast]
    have := ih k (l.set i ⟨t, ⟨x + 1, x + 1 + 1⟩⟩) (x + 1 + 1 + 1) (i + 1) (by rw [List.length_set]; omega) (by omega) (by omega) (by omega) (by omega)
    rw [take_set _ _ _ (by omega), List.append_assoc] at this
    refine this.trans ?_
    rw [show x + 1 + 1 + 1 + 3 * (m : Int) = x + 3 * ((m + 1 : Nat) : Int) by omega]
    simp only [T, ht, Option.getD_some, List.singleton_append]
theorem held_l (m : Nat) : ∀ (k : Nat) (l : List S77) (x : Int) (i : Nat), l.length = i + m → l.drop i = T k x m → 1 ≤ x → x + 3 * m ≤ 4000000 → i + m ≤ 1200000 → m + 10 ≤ k → laws_heldTermS.l0 k l x (i : Int) = some (x + 3 * m) := by
  induction m with
  | zero =>
    intro k l x i h1 hd hx h2 h3 hk
    obtain ⟨k, rfl⟩ : ∃ m, k = m + 1 := ⟨k - 1, by omega⟩
    simp only [laws_heldTermS.l0]
    rw [if_neg (by omega), Int.ofNat_zero, Int.mul_zero, Int.add_zero]
  | succ m ih =>
    intro k l x i h1 hd hx h2 h3 hk
    obtain ⟨k, rfl⟩ : ∃ m, k = m + 1 := ⟨k - 1, by omega⟩
    obtain ⟨t, ht⟩ := text x hx (by omega) k (by omega)
    simp only [T, ht, Option.getD_some] at hd
    have hr : rd_T77 l (i : Int) = ⟨t, ⟨x + 1, x + 1 + 1⟩⟩ := by
      unfold rd_T77
      rw [Int.toNat_natCast, List.getD_eq_getElem?_getD, ← Nat.add_zero i, ← List.getElem?_drop, hd]; rfl
    have hd' : l.drop (i + 1) = T k (x + 1 + 1 + 1) m := by rw [← List.drop_drop, hd]; rfl
    simp only [laws_heldTermS.l0]
    rw [if_pos (by omega), if_pos (by omega), ht, Option.bind_some, hr, wrap_id (x := x + 1) (by omega) (by omega), wrap_id (x := x + 1 + 1) (by omega) (by omega), wrap_id (x := x + 1 + 1 + 1) (by omega) (by omega), wrap_id (x := (i : Int) + 1) (by omega) (by omega)]
    simp only [if_true]
    have := ih k l (x + 1 + 1 + 1) (i + 1) (by omega) hd' (by omega) (by omega) (by omega) (by omega)
    refine this.trans ?_
    rw [show x + 1 + 1 + 1 + 3 * (m : Int) = x + 3 * ((m + 1 : Nat) : Int) by omega]
/-- What is marked is held. -/
theorem marks (a b : Int) (l : List S77) (hl : l.length ≤ 1200000) : ∃ m L, Ev (fun k => laws_markSeries.f k a b l 1) (m, L) ∧ Ev (fun k => laws_heldSeries.f k a b L 1) m ∧ ¬ m < 0 ∧ L.length = l.length := by
  have h1 := mark_l l.length (l.length + 10) l 1 0 (by omega) (by omega) (by omega) (by omega) (by omega)
  rw [List.take_zero, List.nil_append] at h1
  have hT : ∀ (m k : Nat) (x : Int), m ≤ k → (T k x m).length = m := by
    intro m
    induction m with
    | zero => intro k x _; cases k <;> rfl
    | succ m ih =>
      intro k x hk
      obtain ⟨k, rfl⟩ : ∃ m, k = m + 1 := ⟨k - 1, by omega⟩
      rw [T, List.length_cons, ih k _ (by omega)]
  have hlen := hT l.length (l.length + 10) 1 (by omega)
  have h2 := held_l l.length (l.length + 10) (T (l.length + 10) 1 l.length) 1 0 (by omega) (by rw [List.drop_zero]) (by omega) (by omega) (by omega) (by omega)
  refine ⟨1 + 3 * (l.length : Int), T (l.length + 10) 1 l.length, ?_, ?_, by omega, hlen⟩
  · refine Ev.of_mono (fun k => laws_markSeries.mono _ _ _ _ k) (l.length + 10) ?_
    simp only [laws_markSeries.f, laws_markTermS.f]
    rw [show (0 : Int) = ((0 : Nat) : Int) from rfl, h1]; rfl
  · refine Ev.of_mono (fun k => laws_heldSeries.mono _ _ _ _ k) (l.length + 10) ?_
    simp only [laws_heldSeries.f, laws_heldTermS.f]
    rw [show (0 : Int) = ((0 : Nat) : Int) from rfl, h2]
    simp only [Option.bind_some]
    rw [if_neg (by omega)]
end TS
end Go.Proofs.Ytcklblagklojhaa.Pure
