/- Words by their numbers. Conditions: at most nine letters. -/
import Derived.Test.YtaheikponfmdiaaKTab
import Derived.Test.YtaheikponfmdiaaKNum
namespace Go.Proofs.Ytaheikponfmdiaa.M
theorem nextWords_get {d : Nat} (hd : 0 < d) : ∀ (out : List ByteArray) (q : Nat), (nextWords d out)[q]? = (out[q / d]?).map fun s => s ++ letter (q % d)
  | [], q => by simp [nextWords]
  | s :: out, q => by
    have ih := nextWords_get hd out
    unfold nextWords at ih ⊢
    rw [List.flatMap_cons]
    by_cases h : q < d
    · rw [List.getElem?_append_left (by simpa using h), Nat.div_eq_of_lt h, Nat.mod_eq_of_lt h, List.getElem?_map, List.getElem?_range h]
      rfl
    · rw [List.getElem?_append_right (by simpa using h), List.length_map, List.length_range, ih (q - d)]
      have h1 : q / d = (q - d) / d + 1 := by rw [Nat.div_eq_sub_div hd (by omega)]
      have h2 : q % d = (q - d) % d := Nat.mod_eq_sub_mod (by omega)
      rw [h1, h2, List.getElem?_cons_succ]
theorem allU_at {d : Nat} {n q : Nat} (hq : q < (wordsN d n).length) : ∀ m, n < m → (allU d m)[ahead d n + q]? = (wordsN d n)[q]?
  | 0, h => by omega
  | m + 1, h => by
    rw [allU_succ]
    have hl : (allU d m).length = ahead d m := allU_length d m
    by_cases e : n = m
    · subst e
      rw [List.getElem?_append_right (by omega), hl, Nat.add_sub_cancel_left]
    · have h1 : ahead d n + q < ahead d m := by
        have h2 : ahead d (n + 1) = ahead d n + d ^ n := rfl
        have h3 := ahead_mono d (i := n + 1) (j := m) (by omega)
        have h4 : (wordsN d n).length = d ^ n := wordsN_length d n
        omega
      rw [List.getElem?_append_left (by omega)]
      exact allU_at hq m (by omega)
def wonR (d k : Int) : ByteArray × Int := if inR d 1 3 = true then (if 0 ≤ k then (match (allW d.toNat 5)[k.toNat]? with | some s => (s, 0) | none => (⟨#[]⟩, 2)) else (⟨#[]⟩, 2)) else (⟨#[]⟩, 2)
/-- A word comes back from its number. -/
theorem won_back {d k : Int} (h : (wonR d k).2 = 0) : nowR d (wonR d k).1 = (k, 0) := by
  unfold wonR at h ⊢
  by_cases h1 : inR d 1 3 = true
  · rw [if_pos h1] at h ⊢
    by_cases h2 : 0 ≤ k
    · rw [if_pos h2] at h ⊢
      have hd := (inR_iff _ _ _).1 h1
      cases h3 : (allW d.toNat 5)[k.toNat]? with
      | none => rw [h3] at h; cases h
      | some s =>
        obtain ⟨e1, e2, e3⟩ := num_at (d := d.toNat) (n := 5) (by omega) h3
        show nowR d s = _
        unfold nowR
        rw [if_pos h1, if_pos (by rw [e1, Bool.true_and]; exact decide_eq_true e2), e3]
        congr 1
        omega
    · rw [if_neg h2] at h; cases h
  · rw [if_neg h1] at h; cases h
/-- Lists of words are in the order of their numbers. -/
theorem wo_next {d n : Int} {i : Nat} {s t : ByteArray} (hs : (woR d n).1[i]? = some s) (ht : (woR d n).1[i + 1]? = some t) : (nowR d s).2 = 0 ∧ (nowR d t).2 = 0 ∧ (nowR d t).1 = (nowR d s).1 + 1 := by
  unfold woR at hs ht
  by_cases h1 : inR d 1 3 = true
  · rw [if_pos h1] at hs ht
    by_cases h2 : inR n 0 5 = true
    · rw [if_pos h2] at hs ht
      have hd := (inR_iff _ _ _).1 h1
      have hn := (inR_iff _ _ _).1 h2
      have key : ∀ {j : Nat} {u : ByteArray}, (wordsN d.toNat n.toNat)[j]? = some u → nowR d u = (((ahead d.toNat n.toNat + j : Nat) : Int), 0) := by
        intro j u hu
        obtain ⟨g1, g2⟩ := List.getElem?_eq_some_iff.1 hu
        have g3 := (allU_at (d := d.toNat) (n := n.toNat) g1 6 (by omega)).trans hu
        obtain ⟨e1, e2, e3⟩ := num_at (d := d.toNat) (n := 5) (by omega) (show (allW d.toNat 5)[ahead d.toNat n.toNat + j]? = some u from g3)
        unfold nowR
        rw [if_pos h1, if_pos (by rw [e1, Bool.true_and]; exact decide_eq_true e2), e3]
      rw [key hs, key ht]
      refine ⟨rfl, rfl, ?_⟩
      show ((_ : Nat) : Int) = ((_ : Nat) : Int) + 1
      omega
    · rw [if_neg h2] at hs; cases hs
  · rw [if_neg h1] at hs; cases hs
theorem won_size (d k : Int) : (wonR d k).1.size ≤ 5 := by
  unfold wonR
  by_cases h1 : inR d 1 3 = true
  · rw [if_pos h1]
    by_cases h2 : 0 ≤ k
    · rw [if_pos h2]
      have hd := (inR_iff _ _ _).1 h1
      cases h3 : (allW d.toNat 5)[k.toNat]? with
      | none => show (0 : Nat) ≤ 5; decide
      | some s => exact (num_at (d := d.toNat) (n := 5) (by omega) h3).2.1
    · rw [if_neg h2]; show (0 : Nat) ≤ 5; decide
  · rw [if_neg h1]; show (0 : Nat) ≤ 5; decide
theorem wo_at {d n : Int} {i : Nat} {s : ByteArray} (hs : (woR d n).1[i]? = some s) : s.size ≤ 5 ∧ 0 ≤ (nowR d s).1 ∧ (nowR d s).1 ≤ 10000 := by
  unfold woR at hs
  by_cases h1 : inR d 1 3 = true
  · rw [if_pos h1] at hs
    by_cases h2 : inR n 0 5 = true
    · rw [if_pos h2] at hs
      have hd := (inR_iff _ _ _).1 h1
      have hn := (inR_iff _ _ _).1 h2
      obtain ⟨g1, g2⟩ := word_at (d := d.toNat) (by omega) hs
      have h5 : s.size ≤ 5 := by omega
      have h6 := num_lt (d := d.toNat) (s := s) (k := 6) (by omega) g2
      have h7 := ahead_le (d := d.toNat) (k := 6) (by omega) (by omega)
      refine ⟨h5, ?_⟩
      unfold nowR
      rw [if_pos h1, if_pos (by rw [g2, Bool.true_and]; exact decide_eq_true h5)]
      show (0 : Int) ≤ ((num d.toNat s : Nat) : Int) ∧ ((num d.toNat s : Nat) : Int) ≤ 10000
      omega
    · rw [if_neg h2] at hs; cases hs
  · rw [if_neg h1] at hs; cases hs
end Go.Proofs.Ytaheikponfmdiaa.M
