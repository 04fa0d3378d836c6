/- Plain facts on the number of ways in which a word is a shuffle of two words: by the first letters, and row by row. Nothing of the program. Conditions: none. -/
import Derived.Test.YtaheikponfmdiaaKMath
namespace Go.Proofs.Ytaheikponfmdiaa.M
set_option linter.unusedVariables false
set_option linter.unusedSimpArgs false

/-- The number of ways in which u is a shuffle of v and w. -/
def sh : List UInt8 → List UInt8 → List UInt8 → Nat
  | v, w, [] => if v.isEmpty && w.isEmpty then 1 else 0
  | v, w, c :: u => (match v with | a :: v' => if a = c then sh v' w u else 0 | [] => 0) + (match w with | b :: w' => if b = c then sh v w' u else 0 | [] => 0)
theorem sh_nil (v w : List UInt8) : sh v w [] = if v.isEmpty && w.isEmpty then 1 else 0 := by unfold sh; rfl
theorem sh_cons (v w : List UInt8) (c : UInt8) (u : List UInt8) : sh v w (c :: u) = (match v with | a :: v' => if a = c then sh v' w u else 0 | [] => 0) + (match w with | b :: w' => if b = c then sh v w' u else 0 | [] => 0) := by conv => lhs; unfold sh
theorem sh_len : ∀ (u v w : List UInt8), v.length + w.length ≠ u.length → sh v w u = 0
  | [], v, w, h => by
    rw [sh_nil]
    cases v <;> cases w <;> simp_all
  | c :: u, v, w, h => by
    rw [sh_cons]
    have h1 : (match v with | a :: v' => if a = c then sh v' w u else 0 | [] => 0) = 0 := by
      cases v with
      | nil => rfl
      | cons a v' =>
        simp only
        split
        · exact sh_len u v' w (by simp at h ⊢; omega)
        · rfl
    have h2 : (match w with | b :: w' => if b = c then sh v w' u else 0 | [] => 0) = 0 := by
      cases w with
      | nil => rfl
      | cons b w' =>
        simp only
        split
        · exact sh_len u v w' (by simp at h ⊢; omega)
        · rfl
    rw [h1, h2]
theorem sh_le : ∀ (u v w : List UInt8), sh v w u ≤ 2 ^ u.length
  | [], v, w => by rw [sh_nil]; split <;> simp
  | c :: u, v, w => by
    rw [sh_cons, List.length_cons, Nat.pow_succ]
    have h1 : (match v with | a :: v' => if a = c then sh v' w u else 0 | [] => 0) ≤ 2 ^ u.length := by
      cases v with
      | nil => exact Nat.zero_le _
      | cons a v' =>
        simp only
        split
        · exact sh_le u v' w
        · exact Nat.zero_le _
    have h2 : (match w with | b :: w' => if b = c then sh v w' u else 0 | [] => 0) ≤ 2 ^ u.length := by
      cases w with
      | nil => exact Nat.zero_le _
      | cons b w' =>
        simp only
        split
        · exact sh_le u v w'
        · exact Nat.zero_le _
    omega
theorem sh_comm : ∀ (u v w : List UInt8), sh v w u = sh w v u
  | [], v, w => by rw [sh_nil, sh_nil, Bool.and_comm]
  | c :: u, v, w => by
    rw [sh_cons, sh_cons, Nat.add_comm]
    congr 1
    · cases w with
      | nil => rfl
      | cons b w' => simp only [sh_comm u v w']
    · cases v with
      | nil => rfl
      | cons a v' => simp only [sh_comm u v' w]
/-- The number with the first letter of u taken for v. -/
def hsh : List UInt8 → List UInt8 → List UInt8 → Nat
  | a :: v, w, c :: u => if a = c then sh v w u else 0
  | _, _, _ => 0
theorem sh_halves {v w u : List UInt8} (h : u ≠ []) : sh v w u = hsh v w u + hsh w v u := by
  cases u with
  | nil => exact absurd rfl h
  | cons c u =>
    rw [sh_cons]
    congr 1
    · cases v <;> rfl
    · cases w with
      | nil => rfl
      | cons b w' => simp only [hsh, sh_comm u v w']

/-! ### rows -/
def stepI (v w : List UInt8) (c : UInt8) (k : Nat) (ways next : List Int) (i : Nat) : List Int :=
  let n := ways.getD i 0
  let next1 := if i < v.length ∧ c = v.getD i 0 then next.set (i + 1) (next.getD (i + 1) 0 + n) else next
  if i ≤ k ∧ k - i < w.length ∧ c = w.getD (k - i) 0 then next1.set i (next1.getD i 0 + n) else next1
def innerI (v w : List UInt8) (c : UInt8) (k : Nat) (ways : List Int) : Nat → List Int
  | 0 => List.replicate (v.length + 1) 0
  | i + 1 => stepI v w c k ways (innerI v w c k ways i) i
def rowI (v w u : List UInt8) : Nat → List Int
  | 0 => (List.replicate (v.length + 1) 0).set 0 1
  | k + 1 => innerI v w (u.getD k 0) k (rowI v w u k) (v.length + 1)
theorem stepI_ff {v w : List UInt8} {c : UInt8} {k : Nat} {ways next : List Int} {i : Nat} (hA : ¬ (i < v.length ∧ c = v.getD i 0)) (hB : ¬ (i ≤ k ∧ k - i < w.length ∧ c = w.getD (k - i) 0)) : stepI v w c k ways next i = next := by
  unfold stepI; simp only; rw [if_neg hB, if_neg hA]
theorem stepI_tf {v w : List UInt8} {c : UInt8} {k : Nat} {ways next : List Int} {i : Nat} (hA : i < v.length ∧ c = v.getD i 0) (hB : ¬ (i ≤ k ∧ k - i < w.length ∧ c = w.getD (k - i) 0)) : stepI v w c k ways next i = next.set (i + 1) (next.getD (i + 1) 0 + ways.getD i 0) := by
  unfold stepI; simp only; rw [if_neg hB, if_pos hA]
theorem stepI_ft {v w : List UInt8} {c : UInt8} {k : Nat} {ways next : List Int} {i : Nat} (hA : ¬ (i < v.length ∧ c = v.getD i 0)) (hB : i ≤ k ∧ k - i < w.length ∧ c = w.getD (k - i) 0) : stepI v w c k ways next i = next.set i (next.getD i 0 + ways.getD i 0) := by
  unfold stepI; simp only; rw [if_pos hB, if_neg hA]
theorem stepI_tt {v w : List UInt8} {c : UInt8} {k : Nat} {ways next : List Int} {i : Nat} (hA : i < v.length ∧ c = v.getD i 0) (hB : i ≤ k ∧ k - i < w.length ∧ c = w.getD (k - i) 0) : stepI v w c k ways next i = (next.set (i + 1) (next.getD (i + 1) 0 + ways.getD i 0)).set i (next.getD i 0 + ways.getD i 0) := by
  have e : (next.set (i + 1) (next.getD (i + 1) 0 + ways.getD i 0)).getD i 0 = next.getD i 0 := by
    rw [List.getD_eq_getElem?_getD, List.getElem?_set, if_neg (by omega), List.getD_eq_getElem?_getD]
  unfold stepI; simp only; rw [if_pos hB, if_pos hA, e]
theorem stepI_length (v w : List UInt8) (c : UInt8) (k : Nat) (ways next : List Int) (i : Nat) : (stepI v w c k ways next i).length = next.length := by
  unfold stepI; simp only; split <;> split <;> simp
theorem innerI_length (v w : List UInt8) (c : UInt8) (k : Nat) (ways : List Int) : ∀ i, (innerI v w c k ways i).length = v.length + 1
  | 0 => by simp [innerI]
  | i + 1 => by rw [innerI, stepI_length]; exact innerI_length v w c k ways i
theorem rowI_length (v w u : List UInt8) (k : Nat) : (rowI v w u k).length = v.length + 1 := by
  cases k with
  | zero => simp [rowI]
  | succ k => exact innerI_length _ _ _ _ _ _
theorem getD_set (l : List Int) (a j : Nat) (x : Int) : (l.set a x).getD j 0 = if j = a ∧ a < l.length then x else l.getD j 0 := by
  rw [List.getD_eq_getElem?_getD, List.getElem?_set, List.getD_eq_getElem?_getD]
  by_cases h : a = j
  · subst h
    by_cases h2 : a < l.length
    · simp [h2]
    · simp [h2]
  · rw [if_neg h, if_neg (fun e => h e.1.symm)]
def termA (v : List UInt8) (c : UInt8) (ways : List Int) (i : Nat) : Int := if i < v.length ∧ c = v.getD i 0 then ways.getD i 0 else 0
def termB (w : List UInt8) (c : UInt8) (k : Nat) (ways : List Int) (i : Nat) : Int := if i ≤ k ∧ k - i < w.length ∧ c = w.getD (k - i) 0 then ways.getD i 0 else 0
theorem innerI_at (v w : List UInt8) (c : UInt8) (k : Nat) (ways : List Int) : ∀ i, i ≤ v.length + 1 → ∀ j, j ≤ v.length →
    (innerI v w c k ways i).getD j 0 = (if 1 ≤ j ∧ j - 1 < i then termA v c ways (j - 1) else 0) + (if j < i then termB w c k ways j else 0)
  | 0, _, j, hj => by
    rw [innerI, List.getD_eq_getElem?_getD, List.getElem?_replicate]
    split <;> simp
  | i + 1, hi, j, hj => by
    have ih := innerI_at v w c k ways i (by omega)
    have hl := innerI_length v w c k ways i
    have h1 : ∀ j, j ≤ v.length → (if i < v.length ∧ c = v.getD i 0 then (innerI v w c k ways i).set (i + 1) ((innerI v w c k ways i).getD (i + 1) 0 + ways.getD i 0) else innerI v w c k ways i).getD j 0 = (if 1 ≤ j ∧ j - 1 < i + 1 then termA v c ways (j - 1) else 0) + (if j < i then termB w c k ways j else 0) := by
      intro j hj
      by_cases hA : i < v.length ∧ c = v.getD i 0
      · rw [if_pos hA, getD_set, hl]
        by_cases hji : j = i + 1
        · subst hji
          rw [if_pos ⟨rfl, by omega⟩, ih (i + 1) hj, if_neg (by omega), if_neg (by omega), if_pos (by omega), Nat.add_sub_cancel]
          have : termA v c ways i = ways.getD i 0 := if_pos hA
          rw [this]; omega
        · rw [if_neg (fun e => hji e.1), ih j hj]
          have e : (1 ≤ j ∧ j - 1 < i + 1) = (1 ≤ j ∧ j - 1 < i) := by rw [eq_iff_iff]; omega
          simp only [e]
      · rw [if_neg hA, ih j hj]
        by_cases hji : j = i + 1
        · subst hji
          rw [if_neg (by omega), if_neg (by omega), if_pos (by omega), Nat.add_sub_cancel]
          have : termA v c ways i = 0 := if_neg hA
          rw [this]
        · have e : (1 ≤ j ∧ j - 1 < i + 1) = (1 ≤ j ∧ j - 1 < i) := by rw [eq_iff_iff]; omega
          simp only [e]
    have hl1 : (if i < v.length ∧ c = v.getD i 0 then (innerI v w c k ways i).set (i + 1) ((innerI v w c k ways i).getD (i + 1) 0 + ways.getD i 0) else innerI v w c k ways i).length = v.length + 1 := by
      split
      · rw [List.length_set, hl]
      · exact hl
    rw [innerI]
    unfold stepI
    simp only
    generalize (if i < v.length ∧ c = v.getD i 0 then (innerI v w c k ways i).set (i + 1) ((innerI v w c k ways i).getD (i + 1) 0 + ways.getD i 0) else innerI v w c k ways i) = N at h1 hl1
    by_cases hB : i ≤ k ∧ k - i < w.length ∧ c = w.getD (k - i) 0
    · rw [if_pos hB, getD_set, hl1]
      by_cases hji : j = i
      · subst hji
        rw [if_pos ⟨rfl, by omega⟩, h1 j hj, if_neg (Nat.lt_irrefl j), if_pos (Nat.lt_succ_self j)]
        have : termB w c k ways j = ways.getD j 0 := if_pos hB
        rw [this]; omega
      · rw [if_neg (fun e => hji e.1), h1 j hj]
        have e : (j < i + 1) = (j < i) := by rw [eq_iff_iff]; omega
        simp only [e]
    · rw [if_neg hB, h1 j hj]
      by_cases hji : j = i
      · subst hji
        rw [if_neg (Nat.lt_irrefl j), if_pos (Nat.lt_succ_self j)]
        have : termB w c k ways j = 0 := if_neg hB
        rw [this]
      · have e : (j < i + 1) = (j < i) := by rw [eq_iff_iff]; omega
        simp only [e]
theorem rowI_at (v w u : List UInt8) (k j : Nat) (hj : j ≤ v.length) : (rowI v w u (k + 1)).getD j 0 = (if 1 ≤ j then termA v (u.getD k 0) (rowI v w u k) (j - 1) else 0) + termB w (u.getD k 0) k (rowI v w u k) j := by
  rw [rowI, innerI_at _ _ _ _ _ _ (Nat.le_refl _) j hj, if_pos (show j < v.length + 1 by omega)]
  have e : (1 ≤ j ∧ j - 1 < v.length + 1) = (1 ≤ j) := by rw [eq_iff_iff]; omega
  simp only [e]
theorem rowI_bound (v w u : List UInt8) : ∀ k j, 0 ≤ (rowI v w u k).getD j 0 ∧ (rowI v w u k).getD j 0 ≤ 2 ^ k ∧ (k < j → (rowI v w u k).getD j 0 = 0)
  | 0, j => by
    rw [rowI, getD_set]
    have : (List.replicate (v.length + 1) (0 : Int)).getD j 0 = 0 := by
      rw [List.getD_eq_getElem?_getD, List.getElem?_replicate]; split <;> rfl
    rw [this]
    split <;> simp <;> omega
  | k + 1, j => by
    have ih := rowI_bound v w u k
    by_cases hj : j ≤ v.length
    · rw [rowI_at v w u k j hj]
      have hA : 0 ≤ (if 1 ≤ j then termA v (u.getD k 0) (rowI v w u k) (j - 1) else 0) ∧ (if 1 ≤ j then termA v (u.getD k 0) (rowI v w u k) (j - 1) else 0) ≤ 2 ^ k ∧ (k + 1 < j → (if 1 ≤ j then termA v (u.getD k 0) (rowI v w u k) (j - 1) else 0) = 0) := by
        have hp : (0 : Int) ≤ 2 ^ k := by have := (ih 0).1; have := (ih 0).2.1; omega
        unfold termA
        obtain ⟨i1, i2, i3⟩ := ih (j - 1)
        refine ⟨?_, ?_, fun hk => ?_⟩
        · split <;> (try split) <;> omega
        · split <;> (try split) <;> omega
        · have := i3 (by omega); split <;> (try split) <;> omega
      have hB : 0 ≤ termB w (u.getD k 0) k (rowI v w u k) j ∧ termB w (u.getD k 0) k (rowI v w u k) j ≤ 2 ^ k ∧ (k + 1 < j → termB w (u.getD k 0) k (rowI v w u k) j = 0) := by
        have hp : (0 : Int) ≤ 2 ^ k := by have := (ih 0).1; have := (ih 0).2.1; omega
        unfold termB
        obtain ⟨i1, i2, i3⟩ := ih j
        refine ⟨?_, ?_, fun hk => ?_⟩
        · split <;> omega
        · split <;> omega
        · have := i3 (by omega); split <;> omega
      rw [Int.pow_succ]
      obtain ⟨a1, a2, a3⟩ := hA
      obtain ⟨b1, b2, b3⟩ := hB
      refine ⟨by omega, by omega, fun hk => ?_⟩
      rw [a3 hk, b3 hk]; rfl
    · have hz : (rowI v w u (k + 1)).getD j 0 = 0 := by
        rw [List.getD_eq_getElem?_getD, List.getElem?_eq_none (by rw [rowI_length]; omega)]; rfl
      rw [hz]
      have hp : (0 : Int) ≤ 2 ^ k := by have := (ih 0).1; have := (ih 0).2.1; omega
      rw [Int.pow_succ]
      exact ⟨Int.le_refl _, by omega, fun _ => rfl⟩
theorem innerI_bound (v w u : List UInt8) (c : UInt8) (k i j : Nat) (hi : i ≤ v.length + 1) : 0 ≤ (innerI v w c k (rowI v w u k) i).getD j 0 ∧ (innerI v w c k (rowI v w u k) i).getD j 0 ≤ 2 ^ k + 2 ^ k := by
  have hb := rowI_bound v w u k
  by_cases hj : j ≤ v.length
  · rw [innerI_at v w c k _ i hi j hj]
    obtain ⟨a1, a2, _⟩ := hb (j - 1)
    obtain ⟨b1, b2, _⟩ := hb j
    unfold termA termB
    constructor
    · split <;> split <;> (try split) <;> (try split) <;> omega
    · split <;> split <;> (try split) <;> (try split) <;> omega
  · have hz : (innerI v w c k (rowI v w u k) i).getD j 0 = 0 := by
      rw [List.getD_eq_getElem?_getD, List.getElem?_eq_none (by rw [innerI_length]; omega)]; rfl
    rw [hz]; obtain ⟨b1, b2, _⟩ := hb j; omega
theorem pow_le16 {k : Nat} (h : k ≤ 16) : (2 : Int) ^ k ≤ 65536 := by
  have : 2 ^ k ≤ 2 ^ 16 := Nat.pow_le_pow_right (by omega) h
  have e : ((2 ^ k : Nat) : Int) = (2 : Int) ^ k := by rw [Int.natCast_pow]; rfl
  omega
/-! ### the sum over a row stays -/
def sumTo (g : Nat → Int) : Nat → Int
  | 0 => 0
  | n + 1 => sumTo g n + g n
theorem sumTo_congr {g h : Nat → Int} : ∀ {n}, (∀ i, i < n → g i = h i) → sumTo g n = sumTo h n
  | 0, _ => rfl
  | n + 1, hh => by rw [sumTo, sumTo, sumTo_congr (fun i hi => hh i (by omega)), hh n (by omega)]
theorem sumTo_add (g h : Nat → Int) : ∀ n, sumTo (fun i => g i + h i) n = sumTo g n + sumTo h n
  | 0 => rfl
  | n + 1 => by rw [sumTo, sumTo, sumTo, sumTo_add g h n]; omega
theorem sumTo_shift (g : Nat → Int) : ∀ n, sumTo (fun j => if 1 ≤ j then g (j - 1) else 0) (n + 1) = sumTo g n
  | 0 => rfl
  | n + 1 => by
    rw [sumTo, sumTo_shift g n, sumTo, if_pos (by omega), Nat.add_sub_cancel]
theorem sumTo_zero {g : Nat → Int} : ∀ {n}, (∀ i, i < n → g i = 0) → sumTo g n = 0
  | 0, _ => rfl
  | n + 1, h => by rw [sumTo, sumTo_zero (fun i hi => h i (by omega)), h n (by omega)]; rfl
theorem drop_getD {l : List UInt8} {i : Nat} (h : i < l.length) : l.drop i = l.getD i 0 :: l.drop (i + 1) := by
  rw [List.drop_eq_getElem_cons h, List.getD_eq_getElem?_getD, List.getElem?_eq_getElem h]; rfl
theorem mul_if (p : Prop) [Decidable p] (x y : Int) : (if p then x else 0) * y = if p then x * y else 0 := by split <;> simp
theorem row_sum (v w u : List UInt8) : ∀ k, k ≤ u.length → sumTo (fun i => (rowI v w u k).getD i 0 * (sh (v.drop i) (w.drop (k - i)) (u.drop k) : Nat)) (v.length + 1) = (sh v w u : Nat)
  | 0, _ => by
    have h : sumTo (fun i => (rowI v w u 0).getD i 0 * (sh (v.drop i) (w.drop (0 - i)) (u.drop 0) : Nat)) (v.length + 1) = sumTo (fun i => if 1 ≤ i then 0 else ((sh v w u : Nat) : Int)) (v.length + 1) := by
      refine sumTo_congr fun i hi => ?_
      rw [rowI, getD_set]
      have hz : (List.replicate (v.length + 1) (0 : Int)).getD i 0 = 0 := by
        rw [List.getD_eq_getElem?_getD, List.getElem?_replicate]; split <;> rfl
      rw [hz]
      by_cases h0 : i = 0
      · subst h0; simp
      · rw [if_neg (fun e => h0 e.1), if_pos (by omega), Int.zero_mul]
    rw [h]
    have h2 : ∀ n, sumTo (fun i => if 1 ≤ i then 0 else ((sh v w u : Nat) : Int)) (n + 1) = (sh v w u : Nat) := by
      intro n
      induction n with
      | zero => simp [sumTo]
      | succ n ih => rw [sumTo, ih, if_pos (by omega), Int.add_zero]
    exact h2 _
  | k + 1, hk => by
    have ih := row_sum v w u k (by omega)
    rw [← ih]
    have hu := drop_getD (l := u) (i := k) (by omega)
    have hb := rowI_bound v w u k
    have e1 : sumTo (fun i => (rowI v w u (k + 1)).getD i 0 * (sh (v.drop i) (w.drop (k + 1 - i)) (u.drop (k + 1)) : Nat)) (v.length + 1)
        = sumTo (fun j => (if 1 ≤ j then (fun i => termA v (u.getD k 0) (rowI v w u k) i * (sh (v.drop (i + 1)) (w.drop (k - i)) (u.drop (k + 1)) : Nat)) (j - 1) else 0) + termB w (u.getD k 0) k (rowI v w u k) j * (sh (v.drop j) (w.drop (k + 1 - j)) (u.drop (k + 1)) : Nat)) (v.length + 1) := by
      refine sumTo_congr fun j hj => ?_
      rw [rowI_at v w u k j (by omega), Int.add_mul]
      congr 1
      by_cases h1 : 1 ≤ j
      · rw [if_pos h1, if_pos h1]
        have : j - 1 + 1 = j := by omega
        have h2 : k - (j - 1) = k + 1 - j := by omega
        simp only [this, h2]
      · rw [if_neg h1, if_neg h1, Int.zero_mul]
    rw [e1, sumTo_add, sumTo_shift (fun i => termA v (u.getD k 0) (rowI v w u k) i * (sh (v.drop (i + 1)) (w.drop (k - i)) (u.drop (k + 1)) : Nat))]
    have e2 : sumTo (fun i => termA v (u.getD k 0) (rowI v w u k) i * (sh (v.drop (i + 1)) (w.drop (k - i)) (u.drop (k + 1)) : Nat)) v.length
        = sumTo (fun i => termA v (u.getD k 0) (rowI v w u k) i * (sh (v.drop (i + 1)) (w.drop (k - i)) (u.drop (k + 1)) : Nat)) (v.length + 1) := by
      rw [sumTo]
      have : termA v (u.getD k 0) (rowI v w u k) v.length = 0 := if_neg (by omega)
      rw [this, Int.zero_mul, Int.add_zero]
    rw [e2, ← sumTo_add]
    refine sumTo_congr fun i hi => ?_
    obtain ⟨_, _, hb3⟩ := hb i
    by_cases hik : i ≤ k
    · rw [hu, sh_cons]
      generalize hR : (rowI v w u k).getD i 0 = R
      have tA : termA v (u.getD k 0) (rowI v w u k) i * ((sh (v.drop (i + 1)) (w.drop (k - i)) (u.drop (k + 1)) : Nat) : Int) = R * ((match v.drop i with | a :: v' => if a = u.getD k 0 then sh v' (w.drop (k - i)) (u.drop (k + 1)) else 0 | [] => 0 : Nat) : Int) := by
        unfold termA
        by_cases hiv : i < v.length
        · rw [drop_getD hiv]
          simp only
          by_cases hc : u.getD k 0 = v.getD i 0
          · rw [if_pos ⟨hiv, hc⟩, if_pos hc.symm, hR]
          · rw [if_neg (fun e => hc e.2), if_neg (fun e => hc e.symm)]; simp
        · have e0 : v.drop i = [] := List.drop_of_length_le (by omega)
          rw [if_neg (fun e => hiv e.1), e0]; simp
      have tB : termB w (u.getD k 0) k (rowI v w u k) i * ((sh (v.drop i) (w.drop (k + 1 - i)) (u.drop (k + 1)) : Nat) : Int) = R * ((match w.drop (k - i) with | b :: w' => if b = u.getD k 0 then sh (v.drop i) w' (u.drop (k + 1)) else 0 | [] => 0 : Nat) : Int) := by
        unfold termB
        by_cases hiw : k - i < w.length
        · rw [drop_getD hiw]
          have e : k - i + 1 = k + 1 - i := by omega
          simp only [e]
          by_cases hc : u.getD k 0 = w.getD (k - i) 0
          · rw [if_pos ⟨hik, hiw, hc⟩, if_pos hc.symm, hR]
          · rw [if_neg (fun e => hc e.2.2), if_neg (fun e => hc e.symm)]; simp
        · have e0 : w.drop (k - i) = [] := List.drop_of_length_le (by omega)
          rw [if_neg (fun e => hiw e.2.1), e0]; simp
      rw [tA, tB, Int.natCast_add, Int.mul_add]
    · have hz := hb3 (by omega)
      unfold termA termB
      rw [hz]; simp
/-- What stands at the end of the last row. -/
theorem row_last (v w u : List UInt8) (h : v.length + w.length = u.length) : (rowI v w u u.length).getD v.length 0 = (sh v w u : Nat) := by
  have hs := row_sum v w u u.length (Nat.le_refl _)
  rw [sumTo] at hs
  have h0 : sumTo (fun i => (rowI v w u u.length).getD i 0 * (sh (v.drop i) (w.drop (u.length - i)) (u.drop u.length) : Nat)) v.length = 0 := by
    refine sumTo_zero fun i hi => ?_
    rw [List.drop_of_length_le (Nat.le_refl u.length), sh_nil, drop_getD hi]
    simp
  rw [h0, Int.zero_add] at hs
  rw [← hs, List.drop_of_length_le (Nat.le_refl u.length), sh_nil, List.drop_of_length_le (Nat.le_refl v.length), List.drop_of_length_le (show w.length ≤ u.length - v.length by omega)]
  simp
end Go.Proofs.Ytaheikponfmdiaa.M
