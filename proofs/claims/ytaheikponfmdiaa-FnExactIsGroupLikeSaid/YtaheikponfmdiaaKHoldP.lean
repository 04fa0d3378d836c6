/- Values at all shuffles: what is asked of a series that is group-like, or Lie. Conditions: those of series. -/
import Derived.Test.YtaheikponfmdiaaKShufP
namespace Go.Proofs.Ytaheikponfmdiaa.M
set_option linter.unusedVariables false
/-- What the value at a shuffle should be. -/
def wantS (prod : Bool) (x : Ts) (v w : ByteArray) : Option Fr := if prod = true then mul (co x v) (co x w) else some (0, 1)
/-- What a pair of words ends with; none: it goes on. -/
def verdict (d : Nat) (prod : Bool) (x : Ts) (v w : ByteArray) : Option (Bool × Int) :=
  match wantS prod x v w with
  | none => some (false, 3)
  | some t => match atS d x v w with
    | none => some (false, 3)
    | some c => if c = t then none else some (false, 0)
/-- The words with letters, with at most n of them. -/
def words1 (d n : Nat) : List ByteArray := (allW d n).drop 1
def rowP (d n : Nat) (prod : Bool) (x : Ts) (v : ByteArray) (ws : List ByteArray) : Option (Bool × Int) := ws.findSome? fun w => verdict d prod x v w
def holdS (d n : Nat) (prod : Bool) (x : Ts) : Bool × Int := ((words1 d n).findSome? fun v => rowP d n prod x v (words1 d (n - v.size))).getD (true, 0)
/-- The same, by the words that are shorter than n, with those left out that are too long together. -/
def rowQ (d n : Nat) (prod : Bool) (x : Ts) (v : ByteArray) (ws : List ByteArray) : Option (Bool × Int) := ws.findSome? fun w => if v.size + w.size ≤ n then verdict d prod x v w else none
def holdQ (d n : Nat) (prod : Bool) (x : Ts) : Bool × Int := ((words1 d (n - 1)).findSome? fun v => rowQ d n prod x v (words1 d (n - 1))).getD (true, 0)
theorem words1_succ (d n : Nat) : words1 d (n + 1) = words1 d n ++ wordsN d (n + 1) := by
  unfold words1 allW
  rw [allU_succ, List.drop_append_of_le_length]
  rw [allU_length]
  have h0 := ahead_mono d (i := 1) (j := n + 1) (by omega)
  have : ahead d 1 = 1 := by simp [ahead]
  omega
theorem words1_zero (d : Nat) : words1 d 0 = [] := by simp [words1, allW, allU, wordsN, List.range_succ]
theorem words1_mem {d n : Nat} (hd : d ≤ 9) {s : ByteArray} (h : s ∈ words1 d n) : isWd d s = true ∧ s.size ≤ n ∧ 1 ≤ s.size := by
  induction n with
  | zero => rw [words1_zero] at h; cases h
  | succ n ih =>
    rw [words1_succ, List.mem_append] at h
    rcases h with h | h
    · have := ih h; exact ⟨this.1, by omega, this.2.2⟩
    · have := wordsN_mem hd h; exact ⟨this.2, by omega, by omega⟩
theorem findSome_skip {α β : Type} {f g : α → Option β} {l m : List α} (h1 : ∀ a ∈ l, f a = g a) (h2 : ∀ a ∈ m, f a = none) : (l ++ m).findSome? f = l.findSome? g := by
  rw [List.findSome?_append]
  have h3 : m.findSome? f = none := List.findSome?_eq_none_iff.2 h2
  have h4 : l.findSome? f = l.findSome? g := by
    induction l with
    | nil => rfl
    | cons a l ih => rw [List.findSome?_cons, List.findSome?_cons, h1 a List.mem_cons_self, ih fun b hb => h1 b (List.mem_cons_of_mem _ hb)]
  rw [h3, h4]; cases l.findSome? g <;> rfl
theorem words1_split (d : Nat) : ∀ {n m : Nat}, m ≤ n → ∃ r, words1 d n = words1 d m ++ r ∧ ∀ s ∈ r, m < s.size
  | 0, m, h => by obtain rfl : m = 0 := by omega
                  exact ⟨[], by simp, fun s hs => by cases hs⟩
  | n + 1, m, h => by
    by_cases hm : m = n + 1
    · subst hm; exact ⟨[], by simp, fun s hs => by cases hs⟩
    · obtain ⟨r, h1, h2⟩ := words1_split d (n := n) (m := m) (by omega)
      refine ⟨r ++ wordsN d (n + 1), by rw [words1_succ, h1, List.append_assoc], fun s hs => ?_⟩
      rcases List.mem_append.1 hs with hs | hs
      · exact h2 s hs
      · rw [wordsN_size hs]; omega
theorem rowQ_eq {d n : Nat} (hd : d ≤ 9) (prod : Bool) (x : Ts) {v : ByteArray} (h1 : 1 ≤ v.size) (hn : v.size ≤ n) : rowQ d n prod x v (words1 d (n - 1)) = rowP d n prod x v (words1 d (n - v.size)) := by
  obtain ⟨r, h2, h3⟩ := words1_split d (n := n - 1) (m := n - v.size) (by omega)
  unfold rowQ rowP
  rw [h2]
  refine findSome_skip (fun w hw => ?_) (fun w hw => ?_)
  · have := words1_mem hd hw
    rw [if_pos (by omega)]
  · have := h3 w hw
    rw [if_neg (by omega)]
theorem holdQ_eq {d n : Nat} (hd : d ≤ 9) (prod : Bool) (x : Ts) : holdQ d n prod x = holdS d n prod x := by
  unfold holdQ holdS
  congr 1
  obtain ⟨r, h2, h3⟩ := words1_split d (n := n) (m := n - 1) (by omega)
  rw [h2]
  refine (findSome_skip (fun v hv => ?_) (fun v hv => ?_)).symm
  · have := words1_mem hd hv
    exact (rowQ_eq hd prod x (by omega) (by omega)).symm
  · have h4 := h3 v hv
    rw [show n - v.size = 0 by omega, words1_zero]
    rfl
end Go.Proofs.Ytaheikponfmdiaa.M
