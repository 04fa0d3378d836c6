/- What the reference and the program tell of a series being one: the plain law. Conditions: none. -/
import Derived.Test.YtcklblagklojhaaHTm
import Derived.Test.YtcklblagklojhaaA0
import Derived.Test.YtcklblagklojhaaA1
import Derived.Test.YtcklblagklojhaaA2
import Derived.Test.YtcklblagklojhaaA3
import Derived.Test.YtcklblagklojhaaA4
namespace Go.Proofs.Ytcklblagklojhaa.Pure
open Go.RowKit Go.Proofs.Ytcklblagklojhaa.A Go.Proofs.YtcklblagklojhaaW.PrintWords Go.Proofs.YtcklblagklojhaaW.PrintLast Go.Proofs.Ytcklblagklojhaa.M
set_option linter.unusedVariables false
set_option linter.unusedSimpArgs false
namespace SI
def ts (x : S77) : Tm := (x.f0, x.f1.f0, x.f1.f1)
theorem spec_lev (d n : Int) : spec_l01Sizes.f d n = some (lev d n) := rfl
theorem impl_lev (d n : Int) : impl_isLevel.f d n = some (lev d n) := rfl
theorem wrap_id {x : Int} (h0 : -9223372036854775808 ≤ x) (h1 : x ≤ 9223372036854775807) : wrap64 x = x := by
  unfold wrap64; omega
theorem spec_wd (d : Nat) (hd : 1 ≤ d ∧ d ≤ 3) (s : ByteArray) (hs : s.size ≤ 1048576) : spec_l01Word.f d s = some (isWd d s) := by
  unfold spec_l01Word.f; rw [if_pos ⟨by omega, hs⟩, Int.toNat_natCast]
theorem impl_wd (d n : Nat) (hd : 1 ≤ d ∧ d ≤ 3) (s : ByteArray) (hs : s.size ≤ 1048576) : impl_isWord.f d s n = some (isWd d s && decide (s.size ≤ n)) := by
  unfold impl_isWord.f; rw [if_pos ⟨by omega, hs, by omega⟩, Int.toNat_natCast, Int.toNat_natCast]
theorem before_eq (a b : ByteArray) : spec_l01Before.f a b = some (bef a b) := rfl
theorem compare_eq (a b : ByteArray) (ha : a.size ≤ 1048576) (hb : b.size ≤ 1048576) : ∃ c, impl_compareWords.f a b = some c ∧ (c ≥ 0 ↔ bef a b = false) :=
  ⟨_, by unfold impl_compareWords.f; rw [if_pos ⟨ha, hb⟩], H.cw_ge a b⟩
/-- Element j and its place are as they should be. -/
def okAt (d n : Nat) (l : List S77) (j : Nat) : Bool := isTm d n (ts (l.getD j z77)) && (decide (j = 0) || bef (l.getD (j - 1) z77).f0 (l.getD j z77).f0)
def tl (d n : Nat) (l : List S77) : Nat → Nat → Bool
  | 0, _ => true
  | m + 1, i => okAt d n l i && tl d n l m (i + 1)
theorem tl_iff {d n : Nat} {l : List S77} : ∀ {m i : Nat}, tl d n l m i = true ↔ ∀ j, i ≤ j → j < i + m → okAt d n l j = true
  | 0, i => by simp [tl]; intro j a b; omega
  | m + 1, i => by
    rw [tl, Bool.and_eq_true, tl_iff (m := m) (i := i + 1)]
    constructor
    · rintro ⟨h1, h2⟩ j a b
      rcases Nat.eq_or_lt_of_le a with rfl | a
      · exact h1
      · exact h2 j a (by omega)
    · intro h
      exact ⟨h i (Nat.le_refl _) (by omega), fun j a b => h j (by omega) (by omega)⟩
theorem tl_is {d n : Nat} {l : List S77} : tl d n l l.length 0 = isTs d n (l.map ts) := by
  rw [Bool.eq_iff_iff, tl_iff, isTs_at]
  have hg : ∀ j (h : j < l.length), l.getD j z77 = l[j] := fun j h => by rw [List.getD_eq_getElem?_getD, List.getElem?_eq_getElem h]; rfl
  constructor
  · intro h j hj
    rw [List.length_map] at hj
    have := h j (Nat.zero_le _) (by omega)
    simp only [okAt, Bool.and_eq_true, Bool.or_eq_true, decide_eq_true_eq] at this
    rw [hg j hj] at this
    refine ⟨by rw [List.getElem_map]; exact this.1, fun h0 => ?_⟩
    rw [List.getElem_map, List.getElem_map]
    rcases this.2 with e | e
    · omega
    · rw [hg (j - 1) (by omega)] at e; exact e
  · intro h j _ hj
    obtain ⟨h1, h2⟩ := h j (by rw [List.length_map]; omega)
    simp only [okAt, Bool.and_eq_true, Bool.or_eq_true, decide_eq_true_eq]
    rw [hg j (by omega)]
    rw [List.getElem_map] at h1
    refine ⟨h1, ?_⟩
    rcases Nat.eq_zero_or_pos j with e | e
    · exact .inl e
    · have := h2 e
      rw [List.getElem_map, List.getElem_map] at this
      rw [hg (j - 1) (by omega)]
      exact .inr this
/-- No row and no word is greater than what a law lets in. -/
def bnd (l : List S77) : Prop := l.length ≤ 1048576 ∧ ∀ t ∈ l, t.f0.size ≤ 1048576
theorem bnd_of {l : List S77} (h : M.bnd (l.map ts) = true) : bnd l := by
  obtain ⟨h1, h2⟩ := bnd_iff.1 h
  rw [List.length_map] at h1
  exact ⟨h1, fun t ht => h2 (ts t) (List.mem_map_of_mem ht)⟩
theorem rd_nat (l : List S77) (i : Nat) : rd_T77 l (i : Int) = l.getD i z77 := by unfold rd_T77; rw [Int.toNat_natCast]
theorem bnd_at {l : List S77} (h : bnd l) (i : Nat) : (l.getD i z77).f0.size ≤ 1048576 := by
  rw [List.getD_eq_getElem?_getD]
  by_cases hi : i < l.length
  · rw [List.getElem?_eq_getElem hi]; exact h.2 _ (List.getElem_mem _)
  · rw [List.getElem?_eq_none (by omega)]; show (ByteArray.mk #[]).size ≤ _; decide
theorem spec_l (d n : Nat) (hd : 1 ≤ d ∧ d ≤ 3) (hn : n ≤ 5) (l : List S77) (hl : bnd l) (m : Nat) : ∀ (i k : Nat), i + m = l.length → 2 * m + 1048600 ≤ k → spec_l01Is.l0 k (i : Int) d n l = some (tl d n l m i) := by
  have hll := hl.1
  induction m with
  | zero =>
    intro i k h1 hk
    obtain ⟨k, rfl⟩ : ∃ m, k = m + 1 := ⟨k - 1, by omega⟩
    simp only [spec_l01Is.l0]
    rw [if_neg (by omega)]; rfl
  | succ m ih =>
    intro i k h1 hk
    obtain ⟨k, rfl⟩ : ∃ m, k = m + 1 + 1 := ⟨k - 2, by omega⟩
    have hno : ∀ (a b : Int) (s : ByteArray), spec_l01Is.j1 (k + 1) i true d n l s a b = some false := fun a b s => by simp only [spec_l01Is.j1, if_true]
    have hbi := bnd_at hl i
    have hw := spec_wd d hd (l.getD i z77).f0 hbi
    simp only [spec_l01Is.l0]
    rw [if_pos (by omega), if_pos (by omega)]
    simp only [rd_nat, hw, spec_l01IsFrac.f, spec_l01Zero.f, Option.bind_some, hno, tl, okAt, isTm, ts]
    generalize l.getD i z77 = x at *
    by_cases c1 : x.f0.size ≤ n
    · rw [if_neg (by omega)]
      cases c2 : isWd d x.f0 with
      | false => simp
      | true =>
        cases c3 : isFr x.f1.f0 x.f1.f1 with
        | false => simp
        | true =>
          by_cases c4 : x.f1.f0 = 0
          · have e0 : (x.f1.f0 == 0) = true := by simpa using c4
            simp only [if_true, e0, hno]; simp [c4]
          · have c4' : (x.f1.f0 == 0) = false := by simpa using c4
            simp only [if_true, c4', spec_l01Is.j1, Bool.false_eq_true, if_false]
            have hih := ih (i + 1) k (by omega) (by omega)
            have hw1 : wrap64 ((i : Int) + 1) = ((i + 1 : Nat) : Int) := wrap_id (by omega) (by omega)
            by_cases h0 : i = 0
            · rw [if_neg (by omega), hw1, hih]
              simp [c1, c4, h0]
            · rw [if_pos (by omega)]
              have hw2 : wrap64 ((i : Int) - 1) = ((i - 1 : Nat) : Int) := by rw [wrap_id (by omega) (by omega)]; omega
              rw [hw2, if_pos (by omega), if_pos (by omega), rd_nat, before_eq, Option.bind_some, hw1, hih]
              cases c5 : bef (l.getD (i - 1) z77).f0 x.f0 with
              | false => simp [c1, c4, h0]
              | true => simp [c1, c4, h0]
    · rw [if_pos (by omega)]
      simp [c1]
theorem impl_l (d n : Nat) (hd : 1 ≤ d ∧ d ≤ 3) (hn : n ≤ 5) (l : List S77) (hl : bnd l) (m : Nat) : ∀ (i k : Nat), i + m = l.length → m + 1048600 ≤ k → impl_areTerms.l0 k d n l l (l.length : Int) (i : Int) = some (tl d n l m i) := by
  have hll := hl.1
  induction m with
  | zero =>
    intro i k h1 hk
    obtain ⟨k, rfl⟩ : ∃ m, k = m + 1 := ⟨k - 1, by omega⟩
    simp only [impl_areTerms.l0]
    rw [if_neg (by omega)]; rfl
  | succ m ih =>
    intro i k h1 hk
    obtain ⟨k, rfl⟩ : ∃ m, k = m + 1 := ⟨k - 1, by omega⟩
    have hbi := bnd_at hl i
    have hw := impl_wd d n hd (l.getD i z77).f0 hbi
    simp only [impl_areTerms.l0]
    rw [if_pos (by omega), if_pos (by omega), if_pos (by omega)]
    simp only [rd_nat, hw, impl_IsFraction.f, Option.bind_some, tl, okAt, isTm, ts]
    obtain ⟨c, hc, hcb⟩ := compare_eq (l.getD (i - 1) z77).f0 (l.getD i z77).f0 (bnd_at hl _) hbi
    generalize l.getD i z77 = x at *
    cases c2 : isWd d x.f0 with
    | false => simp
    | true =>
      by_cases c1 : x.f0.size ≤ n
      · cases c3 : isFr x.f1.f0 x.f1.f1 with
        | false => simp [c1]
        | true =>
          simp only [c1, decide_true, Bool.and_self, if_true]
          by_cases c4 : x.f1.f0 = 0
          · rw [if_pos c4]; simp [c4]
          · rw [if_neg c4]
            have hih := ih (i + 1) k (by omega) (by omega)
            have hw1 : wrap64 ((i : Int) + 1) = ((i + 1 : Nat) : Int) := wrap_id (by omega) (by omega)
            by_cases h0 : i = 0
            · rw [if_neg (by omega), hw1, hih]
              simp [c4, h0]
            · rw [if_pos (by omega)]
              have hw2 : wrap64 ((i : Int) - 1) = ((i - 1 : Nat) : Int) := by rw [wrap_id (by omega) (by omega)]; omega
              rw [hw2, if_pos (by omega), if_pos (by omega), rd_nat, hc, Option.bind_some, hw1, hih]
              cases c5 : bef (l.getD (i - 1) z77).f0 x.f0 with
              | false => rw [if_pos (hcb.2 c5)]; simp [c4, h0]
              | true => rw [if_neg (fun h => by rw [hcb.1 h] at c5; cases c5)]; simp [c4, h0]
      · simp [c1]
theorem spec_is (d n : Int) (l : List S77) (hl : bnd l) (k : Nat) (hk : 4000000 ≤ k) : spec_l01Is.f k d n l = some (isS d n (l.map ts)) := by
  simp only [spec_l01Is.f, spec_lev, Option.bind_some, isS]
  cases h : lev d n with
  | false => simp
  | true =>
    obtain ⟨h1, h2, _⟩ := lev_iff.1 h
    have := hl.1
    have := spec_l d.toNat n.toNat (by omega) (by omega) l hl l.length 0 k (by omega) (by omega)
    rw [Int.toNat_of_nonneg (by omega), Int.toNat_of_nonneg (by omega), tl_is] at this
    simpa using this
theorem impl_is (d n : Int) (l : List S77) (hl : bnd l) (k : Nat) (hk : 4000000 ≤ k) : impl_IsSeries.f k d n l = some (isS d n (l.map ts)) := by
  simp only [impl_IsSeries.f, impl_lev, Option.bind_some, isS, impl_areTerms.f]
  cases h : lev d n with
  | false => simp
  | true =>
    obtain ⟨h1, h2, _⟩ := lev_iff.1 h
    have := hl.1
    have := impl_l d.toNat n.toNat (by omega) (by omega) l hl l.length 0 k (by omega) (by omega)
    rw [Int.toNat_of_nonneg (by omega), Int.toNat_of_nonneg (by omega), tl_is] at this
    simp only [Int.ofNat_zero] at this
    simp [this]
end SI
end Go.Proofs.Ytcklblagklojhaa.Pure
