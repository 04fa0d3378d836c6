/- What the reference and the program tell of words, their order, and sizes: the plain law. Conditions: none. -/
import Derived.Test.YtcklblagklojhaaPureWd
import Derived.Test.YtcklblagklojhaaKMath
import Derived.Test.YtcklblagklojhaaJ0
import Derived.Test.YtcklblagklojhaaJ1
namespace Go.Proofs.Ytcklblagklojhaa.Pure
open Go.RowKit Go.Proofs.Ytcklblagklojhaa.J Go.Proofs.YtcklblagklojhaaW.PrintWords Go.Proofs.YtcklblagklojhaaW.PrintLast Go.Proofs.Ytcklblagklojhaa.M
set_option linter.unusedVariables false
set_option linter.unusedSimpArgs false
namespace SE
theorem spec_lev (d n : Int) : spec_l01Sizes.f d n = some (lev d n) := by
  have hin : ∀ x y z, spec_l01In.f x y z = some (inR x y z) := fun x y z => NW.spec_in x y z
  simp only [spec_l01Sizes.f, hin, Option.bind_some, lev]
  by_cases h1 : inR d 1 3 = true
  · by_cases h2 : inR n 1 5 = true
    · rw [if_pos h1, if_pos h2, h1, h2]
      by_cases h3 : d < 3
      · rw [if_pos h3]; simp [h3]
      · rw [if_neg h3]; simp [h3]
    · rw [if_pos h1, if_neg h2]; simp [h2]
  · rw [if_neg h1]; simp [h1]
theorem impl_lev (d n : Int) : impl_isLevel.f d n = some (lev d n) := by
  have hle : ∀ x, impl_areLetters.f x = some (inR x 1 3) := fun x => NW.impl_let x
  have hwi : ∀ x y z, impl_within.f x y z = some (inR x y z) := fun x y z => by
    unfold impl_within.f inR
    by_cases h : y ≤ x
    · rw [if_pos h]; simp [h]
    · rw [if_neg h]; simp [h]
  simp only [impl_isLevel.f, hle, hwi, Option.bind_some, lev]
  by_cases h1 : inR d 1 3 = true
  · by_cases h2 : inR n 1 5 = true
    · rw [if_pos h1, if_pos h2, h1, h2]
      by_cases h3 : d < 3
      · rw [if_pos h3]; simp [h3]
      · rw [if_neg h3]; simp [h3]; omega
    · rw [if_pos h1, if_neg h2]; simp [h2]
  · rw [if_neg h1]; simp [h1]
theorem good_wd (d : Nat) (s : ByteArray) : NW.good (d : Int) s 0 ↔ isWd d s = true := by
  unfold NW.good isWd isWL
  rw [List.all_eq_true]
  have hb : ∀ (j : Nat) (h : j < s.size), bt s (j : Int) = ((s.data.toList[j]'(by simpa using h)).toNat : Int) := fun j h => by
    unfold bt
    rw [Int.toNat_natCast]
    simp [h]; rfl
  constructor
  · intro h c hc
    obtain ⟨j, hj, rfl⟩ := List.getElem_of_mem hc
    have hj' : j < s.size := by simpa [bl] using hj
    have := h j (by omega) hj'
    rw [hb j hj'] at this
    show decide (48 ≤ (s.data.toList[j]'(by simpa using hj')).toNat ∧ (s.data.toList[j]'(by simpa using hj')).toNat < 48 + d) = true
    rw [decide_eq_true_eq]
    omega
  · intro h j _ hj
    have := h (s.data.toList[j]'(by simpa using hj)) (List.getElem_mem _)
    rw [hb j hj]
    simp only [decide_eq_true_eq] at this
    omega
theorem spec_wd (d : Nat) (hd : 1 ≤ d ∧ d ≤ 3) (s : ByteArray) (hs : s.size ≤ 1048576) (k : Nat) (hk : 1048576 < k) : spec_l01Word.f k d s = some (isWd d s) := by
  obtain ⟨b, e, h⟩ := NW.spec_wd d (by omega) s hs k hk
  rw [e, good_wd] at *
  rw [Bool.eq_iff_iff.2 h]
theorem impl_wd (d n : Nat) (hd : 1 ≤ d ∧ d ≤ 3) (s : ByteArray) (hs : s.size ≤ 1048576) (k : Nat) (hk : 1048576 < k) : impl_isWord.f k d s n = some (isWd d s && decide (s.size ≤ n)) := by
  obtain ⟨b, e, h⟩ := NW.impl_wd d (by omega) s hs n k hk
  rw [e, good_wd] at *
  rw [Bool.eq_iff_iff.2 (h.trans (by simp : _ ↔ (isWd d s && decide (s.size ≤ n)) = true))]
theorem before_eq (a b : ByteArray) : spec_l01Before.f a b = some (bef a b) := by
  unfold spec_l01Before.f bef befL
  rw [bl_len, bl_len, ByteArray.toList_eq, ByteArray.toList_eq]
  by_cases h : a.size = b.size
  · rw [if_pos (by omega), if_pos h]; rfl
  · rw [if_neg (by omega), if_neg h]; simp
theorem cmp_neg : ∀ (a b : List UInt8), Lib.compareBytes a b < 0 ↔ bless a b = true
  | [], [] => by simp [Lib.compareBytes, bless, Go.Op.bytesLess]
  | [], _ :: _ => by simp [Lib.compareBytes, bless, Go.Op.bytesLess]
  | _ :: _, [] => by simp [Lib.compareBytes, bless, Go.Op.bytesLess]
  | a :: x, b :: y => by
    have ih := cmp_neg x y
    simp only [Lib.compareBytes, bless, Go.Op.bytesLess] at ih ⊢
    by_cases h : a < b
    · simp [h]
    · rw [if_neg h]
      by_cases k : b < a
      · rw [if_pos k]
        have : ¬ a = b := fun e => by subst e; exact absurd k (UInt8.lt_irrefl _)
        simp [h, this]
      · rw [if_neg k]
        have e : a = b := UInt8.toNat_inj.1 (by rw [UInt8.lt_iff_toNat_lt] at h k; omega)
        subst e
        simp [ih, h]
theorem compare_eq (a b : ByteArray) (ha : a.size ≤ 1048576) (hb : b.size ≤ 1048576) : ∃ c, impl_compareWords.f a b = some c ∧ (c ≥ 0 ↔ bef a b = false) := by
  unfold impl_compareWords.f bef befL strings_Compare.f
  rw [bl_len, bl_len]
  by_cases h : a.size = b.size
  · rw [if_pos (by omega), if_pos h]
    refine ⟨_, rfl, ?_⟩
    have := cmp_neg (bl a) (bl b)
    rw [← Bool.not_eq_true, ← this]
    unfold bl; omega
  · rw [if_neg (by omega), if_neg h]
    refine ⟨_, rfl, ?_⟩
    rw [NW.wrap_id (by omega) (by omega)]
    first | (simp; done) | (simp; omega)
end SE
end Go.Proofs.Ytcklblagklojhaa.Pure
namespace Go.Proofs.Ytcklblagklojhaa.H
open Go.RowKit Go.Proofs.YtcklblagklojhaaW.PrintWords Go.Proofs.Ytcklblagklojhaa.M
theorem specWordQ (d : Nat) (hd : 1 ≤ d ∧ d ≤ 3) (s : ByteArray) (hs : s.size ≤ 1048576) (w : World) :
    Calls Try.prog 123 #[.int .i64 (d : Int), .string s] w fun e w' => e = .returned (.bool (isWd d s)) ∧ ∃ n, w' = w.drewN n :=
  (Go.Proofs.Ytcklblagklojhaa.J.spec_l01Word.calls 1048577 d s _ w (Pure.SE.spec_wd d hd s hs 1048577 (by omega))).mono fun _ _ ⟨h, ⟨n, hn⟩⟩ => ⟨h, n, hn⟩
theorem implWordQ (d n : Nat) (hd : 1 ≤ d ∧ d ≤ 3) (s : ByteArray) (hs : s.size ≤ 1048576) (w : World) :
    Calls Try.prog 125 #[.int .i64 (d : Int), .string s, .int .i64 (n : Int)] w fun e w' => e = .returned (.bool (isWd d s && decide (s.size ≤ n))) ∧ ∃ n, w' = w.drewN n :=
  (Go.Proofs.Ytcklblagklojhaa.J.impl_isWord.calls 1048577 d s n _ w (Pure.SE.impl_wd d n hd s hs 1048577 (by omega))).mono fun _ _ ⟨h, ⟨n, hn⟩⟩ => ⟨h, n, hn⟩
theorem specLevQ (d n : Int) (w : World) : Calls Try.prog 98 #[.int .i64 d, .int .i64 n] w fun e w' => e = .returned (.bool (lev d n)) ∧ ∃ n, w' = w.drewN n :=
  (Go.Proofs.Ytcklblagklojhaa.J.spec_l01Sizes.calls d n _ w (Pure.SE.spec_lev d n)).mono fun _ _ ⟨h, ⟨n, hn⟩⟩ => ⟨h, n, hn⟩
theorem implLevQ (d n : Int) (w : World) : Calls Try.prog 101 #[.int .i64 d, .int .i64 n] w fun e w' => e = .returned (.bool (lev d n)) ∧ ∃ n, w' = w.drewN n :=
  (Go.Proofs.Ytcklblagklojhaa.J.impl_isLevel.calls d n _ w (Pure.SE.impl_lev d n)).mono fun _ _ ⟨h, ⟨n, hn⟩⟩ => ⟨h, n, hn⟩
theorem specBeforeQ (a b : ByteArray) (w : World) : Calls Try.prog 179 #[.string a, .string b] w fun e w' => e = .returned (.bool (bef a b)) ∧ ∃ n, w' = w.drewN n :=
  (Go.Proofs.Ytcklblagklojhaa.J.spec_l01Before.calls a b _ w (Pure.SE.before_eq a b)).mono fun _ _ ⟨h, ⟨n, hn⟩⟩ => ⟨h, n, hn⟩
theorem implCompareQ (a b : ByteArray) (ha : a.size ≤ 1048576) (hb : b.size ≤ 1048576) (w : World) : Calls Try.prog 181 #[.string a, .string b] w fun e w' => (∃ c : Int, e = .returned (.int .i64 c) ∧ decide (c ≥ 0) = !bef a b) ∧ ∃ n, w' = w.drewN n := by
  obtain ⟨c, hc, h⟩ := Pure.SE.compare_eq a b ha hb
  refine (Go.Proofs.Ytcklblagklojhaa.J.impl_compareWords.calls a b c w hc).mono fun e w' ⟨he, ⟨n, hn⟩⟩ => ⟨⟨c, he, ?_⟩, n, hn⟩
  cases hx : bef a b with
  | false => exact decide_eq_true (h.2 hx)
  | true => exact decide_eq_false (fun hh => by rw [h.1 hh] at hx; cases hx)
/-- The sign that tells two words' order. -/
def cw (a b : ByteArray) : Int := if (a.size : Int) = (b.size : Int) then Lib.compareBytes a.data.toList b.data.toList else (a.size : Int) - (b.size : Int)
theorem cw_ge (a b : ByteArray) : cw a b ≥ 0 ↔ bef a b = false := by
  unfold cw bef befL
  rw [bl_len, bl_len]
  by_cases h : a.size = b.size
  · rw [if_pos (by omega), if_pos h]
    have := Pure.SE.cmp_neg (bl a) (bl b)
    rw [← Bool.not_eq_true, ← this]
    unfold bl; omega
  · rw [if_neg (by omega), if_neg h]
    first | (simp; done) | (simp; omega)
theorem implCompareV (a b : ByteArray) (ha : a.size ≤ 1048576) (hb : b.size ≤ 1048576) (w : World) : Calls Try.prog 181 #[.string a, .string b] w fun e w' => e = .returned (.int .i64 (cw a b)) ∧ ∃ n, w' = w.drewN n :=
  (Go.Proofs.Ytcklblagklojhaa.J.impl_compareWords.calls a b (cw a b) w (by
    unfold Go.Proofs.Ytcklblagklojhaa.J.impl_compareWords.f Go.Proofs.Ytcklblagklojhaa.J.strings_Compare.f cw
    by_cases h : (a.size : Int) = (b.size : Int)
    · rw [if_pos h, if_pos h]; rfl
    · rw [if_neg h, if_neg h, Pure.NW.wrap_id (by omega) (by omega)])).mono fun _ _ ⟨h, ⟨n, hn⟩⟩ => ⟨h, n, hn⟩
end Go.Proofs.Ytcklblagklojhaa.H
