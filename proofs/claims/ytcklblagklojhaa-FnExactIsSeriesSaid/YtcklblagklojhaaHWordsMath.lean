/- The plain words of n letters: what spec.l01Words makes. -/
import Derived.WalkKit
namespace Go.Proofs.Ytcklblagklojhaa.M
/-- A letter as a text. -/
def letter (q : Nat) : ByteArray := ⟨#[(48 + q).toUInt8]⟩
/-- All words one letter longer, of the first i words, and of the next one with its first k letters. -/
def nextWords (d : Nat) (out : List ByteArray) : List ByteArray := out.flatMap fun s => (List.range d).map fun k => s ++ letter k
/-- All words of n letters in order. -/
def wordsN (d : Nat) : Nat → List ByteArray
  | 0 => [⟨#[]⟩]
  | n + 1 => nextWords d (wordsN d n)
theorem nextWords_take (d : Nat) (out : List ByteArray) (i : Nat) (h : i < out.length) :
    nextWords d (out.take (i + 1)) = nextWords d (out.take i) ++ (List.range d).map fun k => out[i] ++ letter k := by
  unfold nextWords
  rw [List.take_succ_eq_append_getElem h, List.flatMap_append]
  simp
theorem nextWords_length (d : Nat) (out : List ByteArray) : (nextWords d out).length = out.length * d := by
  unfold nextWords
  induction out with
  | nil => simp
  | cons s r ih => rw [List.flatMap_cons, List.length_append, ih, List.length_map, List.length_range, List.length_cons, Nat.add_mul, Nat.one_mul, Nat.add_comm]
theorem wordsN_length (d n : Nat) : (wordsN d n).length = d ^ n := by
  induction n with
  | zero => rfl
  | succ n ih => rw [wordsN, nextWords_length, ih, Nat.pow_succ]
theorem wordsN_le {d n : Nat} (hd : d ≤ 3) (hn : n ≤ 8) : (wordsN d n).length ≤ 6561 := by
  rw [wordsN_length]
  exact Nat.le_trans (Nat.pow_le_pow_left hd n) (Nat.pow_le_pow_right (n := 3) (by omega) hn)
theorem wordsN_size {d : Nat} : ∀ {n : Nat} {s : ByteArray}, s ∈ wordsN d n → s.size = n
  | 0, s, h => by
    obtain rfl : s = ⟨#[]⟩ := by simpa [wordsN] using h
    rfl
  | n + 1, s, h => by
    simp only [wordsN, nextWords, List.mem_flatMap, List.mem_map, List.mem_range] at h
    obtain ⟨t, ht, q, hq, rfl⟩ := h
    have := wordsN_size ht
    rw [ByteArray.size_append, this]; rfl
theorem getD_mem {l : List ByteArray} {j : Nat} (h : j < l.length) : l.getD j ByteArray.empty ∈ l := by
  rw [List.getD_eq_getElem?_getD, List.getElem?_eq_getElem h]; exact List.getElem_mem _
/-- A row of next words in the making: all of the first j words, q of the next one. -/
def makingW (d : Nat) (ws : List ByteArray) (j q : Nat) : List ByteArray := nextWords d (ws.take j) ++ (List.range q).map fun k => ws.getD j ByteArray.empty ++ letter k
theorem makingW_zero (d : Nat) (ws : List ByteArray) (j : Nat) : makingW d ws j 0 = nextWords d (ws.take j) := by simp [makingW]
theorem makingW_next (d : Nat) (ws : List ByteArray) (j q : Nat) : makingW d ws j (q + 1) = makingW d ws j q ++ [ws.getD j ByteArray.empty ++ letter q] := by
  unfold makingW; rw [List.range_succ, List.map_append, List.append_assoc]; rfl
theorem makingW_end (d : Nat) (ws : List ByteArray) (j : Nat) (h : j < ws.length) : makingW d ws j d = nextWords d (ws.take (j + 1)) := by
  unfold makingW; rw [nextWords_take d ws j h, List.getD_eq_getElem?_getD, List.getElem?_eq_getElem h]; rfl
theorem makingW_le {d : Nat} {ws : List ByteArray} (hd : d ≤ 3) (hw : ws.length ≤ 6561) (j q : Nat) (hq : q ≤ 3) : (makingW d ws j q).length ≤ 20000 := by
  unfold makingW
  rw [List.length_append, nextWords_length, List.length_map, List.length_range, List.length_take]
  have : min j ws.length * d ≤ 6561 * 3 := Nat.mul_le_mul (by omega) hd
  omega
end Go.Proofs.Ytcklblagklojhaa.M
