/- Plain words for the walks. Conditions: none. -/
import Derived.WalkKit
/- Plain facts on whole numbers and fractions: greatest common divisors, lowest terms, what fits. Nothing of the program. Conditions: none. -/
namespace Go.Proofs.Ytaheikponfmdiaa.M
set_option linter.unusedVariables false
set_option linter.unusedSimpArgs false

theorem gcd_tmod (a b : Int) : Int.gcd b (a.tmod b) = Int.gcd a b := by
  unfold Int.gcd
  rw [Int.natAbs_tmod, Nat.gcd_comm, ← Nat.gcd_rec, Nat.gcd_comm]
theorem tmod_lt {a b : Int} (h : b ≠ 0) : (a.tmod b).natAbs < b.natAbs := by
  rw [Int.natAbs_tmod]; exact Nat.mod_lt _ (by omega)
theorem tmod_le (a b : Int) : (a.tmod b).natAbs ≤ a.natAbs := by
  rw [Int.natAbs_tmod]; exact Nat.mod_le _ _

/-- b ≤ a ≤ c, as one Bool. -/
def inR (a b c : Int) : Bool := decide (b ≤ a ∧ a ≤ c)
theorem inR_iff (a b c : Int) : inR a b c = true ↔ b ≤ a ∧ a ≤ c := by simp [inR]
theorem inR_no (a b c : Int) : inR a b c = false ↔ ¬ (b ≤ a ∧ a ≤ c) := by simp [inR]

/-- a / b is a fraction. -/
def isFr (a b : Int) : Bool := inR b 1 1000000000 && (inR a (-1000000000) 1000000000 && decide ((Int.gcd a b : Int) = 1))
theorem isFr_iff (a b : Int) : isFr a b = true ↔ 1 ≤ b ∧ b ≤ 1000000000 ∧ -1000000000 ≤ a ∧ a ≤ 1000000000 ∧ Int.gcd a b = 1 := by
  unfold isFr
  simp only [Bool.and_eq_true, inR_iff, decide_eq_true_eq]
  omega

/-- The divisor with the sign of the denominator; numerator and denominator in lowest terms. -/
def sgd (a b : Int) : Int := if b < 0 then -(Int.gcd a b : Int) else (Int.gcd a b : Int)
def rnum (a b : Int) : Int := Int.tdiv a (sgd a b)
def rden (a b : Int) : Int := Int.tdiv b (sgd a b)
/-- a / b in lowest terms fits. -/
def okN (a b : Int) : Bool := isFr (rnum a b) (rden a b)
/-- a / b in lowest terms, if it fits. -/
def frac (a b : Int) : Option (Int × Int) := if b ≠ 0 ∧ okN a b = true then some (rnum a b, rden a b) else none

theorem gcd_pos {a b : Int} (h : b ≠ 0) : 0 < (Int.gcd a b : Int) := by
  have : Int.gcd a b ≠ 0 := by rw [Ne, Int.gcd_eq_zero_iff]; omega
  omega
theorem gcd_le {a b : Int} (h : b ≠ 0) : (Int.gcd a b : Int) ≤ b.natAbs := by
  have : Int.gcd a b ≤ b.natAbs := Nat.gcd_le_right _ (by omega)
  omega
theorem sgd_ne {a b : Int} (h : b ≠ 0) : sgd a b ≠ 0 := by
  unfold sgd; have := gcd_pos (a := a) h; split <;> omega
theorem sgd_abs {a b : Int} (h : b ≠ 0) : (sgd a b).natAbs ≤ b.natAbs := by
  unfold sgd; have := gcd_le (a := a) h; have := gcd_pos (a := a) h; split <;> omega
theorem tdiv_abs (a d : Int) : (Int.tdiv a d).natAbs ≤ a.natAbs := by
  rw [Int.natAbs_tdiv]; exact Nat.div_le_self _ _
theorem rnum_abs (a b : Int) : (rnum a b).natAbs ≤ a.natAbs := tdiv_abs _ _
theorem rden_abs (a b : Int) : (rden a b).natAbs ≤ b.natAbs := tdiv_abs _ _

abbrev Fr := Int × Int
/-- A pair that is a fraction. -/
def fr (a : Fr) : Bool := isFr a.1 a.2
/-- Both parts are at most 10^9 in size. -/
def small (a : Fr) : Prop := -1000000000 ≤ a.1 ∧ a.1 ≤ 1000000000 ∧ -1000000000 ≤ a.2 ∧ a.2 ≤ 1000000000
theorem fr_small {a : Fr} (h : fr a = true) : small a := by
  have := (isFr_iff _ _).1 h; unfold small; omega
theorem fr_den {a : Fr} (h : fr a = true) : 1 ≤ a.2 := ((isFr_iff _ _).1 h).1
def add (a b : Fr) : Option Fr := frac (a.1 * b.2 + b.1 * a.2) (a.2 * b.2)
def mul (a b : Fr) : Option Fr := frac (a.1 * b.1) (a.2 * b.2)
def div (a b : Fr) : Option Fr := frac (a.1 * b.2) (a.2 * b.1)
theorem mul_abs {a b : Int} {m n : Nat} (ha : a.natAbs ≤ m) (hb : b.natAbs ≤ n) : (a * b).natAbs ≤ m * n := by
  rw [Int.natAbs_mul]; exact Nat.mul_le_mul ha hb
theorem small_mul {a b : Int} (ha : -1000000000 ≤ a ∧ a ≤ 1000000000) (hb : -1000000000 ≤ b ∧ b ≤ 1000000000) : -1000000000000000000 ≤ a * b ∧ a * b ≤ 1000000000000000000 := by
  have := mul_abs (a := a) (b := b) (m := 1000000000) (n := 1000000000) (by omega) (by omega)
  omega
theorem frac_fr {a b : Int} {c : Fr} (h : frac a b = some c) : fr c = true := by
  unfold frac at h
  split at h
  · rename_i hh; injection h with h; subst h; exact hh.2
  · cases h
theorem frac_ok {a b : Int} (h : b ≠ 0) (hk : okN a b = true) : frac a b = some (rnum a b, rden a b) := by unfold frac; rw [if_pos ⟨h, hk⟩]
theorem frac_bad {a b : Int} (hk : okN a b = false) : frac a b = none := by unfold frac; rw [if_neg (by simp [hk])]
theorem frac_zero (a : Int) : frac a 0 = none := by unfold frac; rw [if_neg (by simp)]
theorem frac_abs {a b : Int} {c : Fr} (h : frac a b = some c) : small c := fr_small (frac_fr h)
/-- What sums, products and quotients of fractions are told as: the fraction, or the code 3. -/
def told : Option Fr → Fr × Int
  | some c => (c, 0)
  | none => ((0, 0), 3)
def mulF (a b : Fr) : Fr × Int := if fr a = true then if fr b = true then told (mul a b) else ((0, 0), 1) else ((0, 0), 1)
def addF (a b : Fr) : Fr × Int := if fr a = true then if fr b = true then told (add a b) else ((0, 0), 1) else ((0, 0), 1)
def divF (a b : Fr) : Fr × Int := if fr a = true then if fr b = true then (if b.1 = 0 then ((0, 0), 5) else told (div a b)) else ((0, 0), 1) else ((0, 0), 1)
/-- What l01Frac returns, as values. -/
def sfrac : Option Fr → Fr × Bool
  | some c => (c, true)
  | none => ((0, 0), false)
theorem sfrac_none : sfrac none = ((0, 0), false) := rfl
theorem sfrac_some (c : Fr) : sfrac (some c) = (c, true) := rfl
theorem told_sfrac (o : Option Fr) : told (if (sfrac o).2 = true then some ((sfrac o).1.1, (sfrac o).1.2) else none) = told o := by cases o <;> rfl
theorem wrap_id {x : Int} (h0 : -9223372036854775808 ≤ x) (h1 : x ≤ 9223372036854775807) : Go.RowKit.wrap64 x = x := by
  unfold Go.RowKit.wrap64; omega
end Go.Proofs.Ytaheikponfmdiaa.M

/- The plain words of n letters: what spec.l01Words makes. -/
namespace Go.Proofs.Ytaheikponfmdiaa.M
/-- A letter as a text. -/
def letter (q : Nat) : ByteArray := ⟨#[(48 + q).toUInt8]⟩
/-- All words one letter longer, of the first i words, and of the next one with its first k letters. -/
def nextWords (d : Nat) (out : List ByteArray) : List ByteArray := out.flatMap fun s => (List.range d).map fun k => s ++ letter k
/-- All words of n letters in order. -/
def wordsN (d : Nat) : Nat → List ByteArray
  | 0 => [⟨#[]⟩]
  | n + 1 => nextWords d (wordsN d n)
theorem nextWords_take (d : Nat) (out : List ByteArray) (i : Nat) (h : i < out.length) :
    nextWords d (out.take (i + 1)) = nextWords d (out.take i) ++ (List.range d).map fun k => out[i] ++ letter k := by
  unfold nextWords
  rw [List.take_succ_eq_append_getElem h, List.flatMap_append]
  simp
theorem nextWords_length (d : Nat) (out : List ByteArray) : (nextWords d out).length = out.length * d := by
  unfold nextWords
  induction out with
  | nil => simp
  | cons s r ih => rw [List.flatMap_cons, List.length_append, ih, List.length_map, List.length_range, List.length_cons, Nat.add_mul, Nat.one_mul, Nat.add_comm]
theorem wordsN_length (d n : Nat) : (wordsN d n).length = d ^ n := by
  induction n with
  | zero => rfl
  | succ n ih => rw [wordsN, nextWords_length, ih, Nat.pow_succ]
theorem wordsN_le {d n : Nat} (hd : d ≤ 3) (hn : n ≤ 8) : (wordsN d n).length ≤ 6561 := by
  rw [wordsN_length]
  exact Nat.le_trans (Nat.pow_le_pow_left hd n) (Nat.pow_le_pow_right (n := 3) (by omega) hn)
theorem wordsN_size {d : Nat} : ∀ {n : Nat} {s : ByteArray}, s ∈ wordsN d n → s.size = n
  | 0, s, h => by
    obtain rfl : s = ⟨#[]⟩ := by simpa [wordsN] using h
    rfl
  | n + 1, s, h => by
    simp only [wordsN, nextWords, List.mem_flatMap, List.mem_map, List.mem_range] at h
    obtain ⟨t, ht, q, hq, rfl⟩ := h
    have := wordsN_size ht
    rw [ByteArray.size_append, this]; rfl
theorem getD_mem {l : List ByteArray} {j : Nat} (h : j < l.length) : l.getD j ByteArray.empty ∈ l := by
  rw [List.getD_eq_getElem?_getD, List.getElem?_eq_getElem h]; exact List.getElem_mem _
/-- A row of next words in the making: all of the first j words, q of the next one. -/
def makingW (d : Nat) (ws : List ByteArray) (j q : Nat) : List ByteArray := nextWords d (ws.take j) ++ (List.range q).map fun k => ws.getD j ByteArray.empty ++ letter k
theorem makingW_zero (d : Nat) (ws : List ByteArray) (j : Nat) : makingW d ws j 0 = nextWords d (ws.take j) := by simp [makingW]
theorem makingW_next (d : Nat) (ws : List ByteArray) (j q : Nat) : makingW d ws j (q + 1) = makingW d ws j q ++ [ws.getD j ByteArray.empty ++ letter q] := by
  unfold makingW; rw [List.range_succ, List.map_append, List.append_assoc]; rfl
theorem makingW_end (d : Nat) (ws : List ByteArray) (j : Nat) (h : j < ws.length) : makingW d ws j d = nextWords d (ws.take (j + 1)) := by
  unfold makingW; rw [nextWords_take d ws j h, List.getD_eq_getElem?_getD, List.getElem?_eq_getElem h]; rfl
theorem makingW_le {d : Nat} {ws : List ByteArray} (hd : d ≤ 3) (hw : ws.length ≤ 6561) (j q : Nat) (hq : q ≤ 3) : (makingW d ws j q).length ≤ 20000 := by
  unfold makingW
  rw [List.length_append, nextWords_length, List.length_map, List.length_range, List.length_take]
  have : min j ws.length * d ≤ 6561 * 3 := Nat.mul_le_mul (by omega) hd
  omega
end Go.Proofs.Ytaheikponfmdiaa.M

/- Plain facts on words, their order and their numbers, and on rows of terms. Nothing of the program. Conditions: none. -/
namespace Go.Proofs.Ytaheikponfmdiaa.M
set_option linter.unusedVariables false
set_option linter.unusedSimpArgs false

/-! ### words -/
def bl (s : ByteArray) : List UInt8 := s.data.toList
theorem bl_ext {s t : ByteArray} (h : bl s = bl t) : s = t := by
  cases s; cases t; simp only [bl] at h; congr; exact Array.toList_inj.1 h
theorem bl_len (s : ByteArray) : (bl s).length = s.size := by simp [bl]
theorem bl_append (s t : ByteArray) : bl (s ++ t) = bl s ++ bl t := by simp [bl]
theorem bl_empty : bl ⟨#[]⟩ = [] := rfl
theorem bl_letter (q : Nat) : bl (letter q) = [(48 + q).toUInt8] := rfl
/-- A word for d letters. -/
def isWL (d : Nat) (l : List UInt8) : Bool := l.all fun c => decide (48 ≤ c.toNat ∧ c.toNat < 48 + d)
def isWd (d : Nat) (s : ByteArray) : Bool := isWL d (bl s)
theorem letter_nat {q : Nat} (h : q < 10) : (48 + q).toUInt8.toNat = 48 + q := by
  have : (48 + q) % 256 = 48 + q := by omega
  simpa using this

/-! ### the order -/
abbrev bless := Go.Op.bytesLess
theorem bless_irrefl : ∀ l : List UInt8, bless l l = false
  | [] => rfl
  | a :: x => by simp [bless, Go.Op.bytesLess, bless_irrefl x]
theorem bless_trans : ∀ {a b c : List UInt8}, bless a b = true → bless b c = true → bless a c = true
  | _, [], _, h, _ => by cases ‹List UInt8› <;> simp [bless, Go.Op.bytesLess] at h
  | [], b :: y, [], _, k => by simp [bless, Go.Op.bytesLess] at k
  | [], b :: y, c :: z, _, _ => by simp [bless, Go.Op.bytesLess]
  | a :: x, b :: y, [], _, k => by simp [bless, Go.Op.bytesLess] at k
  | a :: x, b :: y, c :: z, h, k => by
    simp only [bless, Go.Op.bytesLess, Bool.or_eq_true, Bool.and_eq_true, decide_eq_true_eq, beq_iff_eq] at h k ⊢
    rcases h with h | ⟨rfl, h⟩
    · rcases k with k | ⟨rfl, k⟩
      · exact .inl (UInt8.lt_trans h k)
      · exact .inl h
    · rcases k with k | ⟨rfl, k⟩
      · exact .inl k
      · exact .inr ⟨rfl, bless_trans h k⟩
theorem bless_tri : ∀ {a b : List UInt8}, bless a b = false → bless b a = false → a = b
  | [], [], _, _ => rfl
  | [], b :: y, h, _ => by simp [bless, Go.Op.bytesLess] at h
  | a :: x, [], _, k => by simp [bless, Go.Op.bytesLess] at k
  | a :: x, b :: y, h, k => by
    simp only [bless, Go.Op.bytesLess, Bool.or_eq_false_iff, Bool.and_eq_false_iff, decide_eq_false_iff_not, beq_eq_false_iff_ne] at h k
    have e : a = b := by
      have h1 : ¬ a.toNat < b.toNat := by simpa [UInt8.lt_iff_toNat_lt] using h.1
      have k1 : ¬ b.toNat < a.toNat := by simpa [UInt8.lt_iff_toNat_lt] using k.1
      exact UInt8.toNat_inj.1 (by omega)
    subst e
    rw [bless_tri (h.2.resolve_left (fun hn => hn rfl)) (k.2.resolve_left (fun hn => hn rfl))]
/-- Words by their lengths, then as texts. -/
def befL (v w : List UInt8) : Bool := if v.length = w.length then bless v w else decide (v.length < w.length)
def bef (v w : ByteArray) : Bool := befL (bl v) (bl w)
theorem befL_irrefl (v : List UInt8) : befL v v = false := by simp [befL, bless_irrefl]
theorem befL_trans {a b c : List UInt8} (h : befL a b = true) (k : befL b c = true) : befL a c = true := by
  unfold befL at *
  by_cases h1 : a.length = b.length <;> by_cases h2 : b.length = c.length
  · rw [if_pos h1] at h; rw [if_pos h2] at k; rw [if_pos (h1.trans h2)]; exact bless_trans h k
  · rw [if_neg h2] at k; rw [if_neg (by omega)]; simp at k ⊢; omega
  · rw [if_neg h1] at h; rw [if_neg (by omega)]; simp at h ⊢; omega
  · rw [if_neg h1] at h; rw [if_neg h2] at k; simp at h k; rw [if_neg (by omega)]; simp; omega
theorem befL_tri {a b : List UInt8} (h : befL a b = false) (k : befL b a = false) : a = b := by
  unfold befL at *
  by_cases h1 : a.length = b.length
  · rw [if_pos h1] at h; rw [if_pos h1.symm] at k; exact bless_tri h k
  · rw [if_neg h1] at h; rw [if_neg (by omega)] at k; simp at h k; omega
theorem bef_irrefl (v : ByteArray) : bef v v = false := befL_irrefl _
theorem bef_trans {a b c : ByteArray} (h : bef a b = true) (k : bef b c = true) : bef a c = true := befL_trans h k
theorem bef_tri {a b : ByteArray} (h : bef a b = false) (k : bef b a = false) : a = b := bl_ext (befL_tri h k)
theorem bef_ne {a b : ByteArray} (h : bef a b = true) : a ≠ b := fun e => by rw [e, bef_irrefl] at h; cases h

/-! ### rows of terms -/
abbrev Tm := ByteArray × Int × Int
abbrev Ts := List Tm
def isTm (d n : Nat) (t : Tm) : Bool := isWd d t.1 && (decide (t.1.size ≤ n) && (isFr t.2.1 t.2.2 && decide (t.2.1 ≠ 0)))
/-- The terms' words ascend. -/
def asc : Ts → Bool
  | a :: b :: r => bef a.1 b.1 && asc (b :: r)
  | _ => true
def isTs (d n : Nat) (l : Ts) : Bool := l.all (isTm d n) && asc l
def Srt (l : Ts) : Prop := l.Pairwise fun a b => bef a.1 b.1 = true
theorem asc_cons {a : Tm} {l : Ts} : asc (a :: l) = true ↔ (∀ b ∈ l.head?, bef a.1 b.1 = true) ∧ asc l = true := by
  cases l with
  | nil => simp [asc]
  | cons b r => simp [asc]
theorem asc_srt : ∀ {l : Ts}, asc l = true ↔ Srt l
  | [] => by simp [asc, Srt]
  | [a] => by simp [asc, Srt]
  | a :: b :: r => by
    have ih := asc_srt (l := b :: r)
    unfold Srt at *
    rw [List.pairwise_cons]
    simp only [asc, Bool.and_eq_true]
    constructor
    · rintro ⟨h1, h2⟩
      have h3 := ih.1 h2
      refine ⟨fun c hc => ?_, h3⟩
      rcases List.mem_cons.1 hc with rfl | hc
      · exact h1
      · exact bef_trans h1 ((List.pairwise_cons.1 h3).1 c hc)
    · rintro ⟨h1, h2⟩
      exact ⟨h1 b List.mem_cons_self, ih.2 h2⟩
theorem isTs_iff {d n : Nat} {l : Ts} : isTs d n l = true ↔ (∀ t ∈ l, isTm d n t = true) ∧ Srt l := by
  unfold isTs; rw [Bool.and_eq_true, List.all_eq_true, asc_srt]
/-- The check, place by place. -/
theorem asc_at : ∀ {l : Ts}, asc l = true ↔ ∀ j, (h : j + 1 < l.length) → bef (l[j]'(by omega)).1 l[j + 1].1 = true
  | [] => by simp [asc]
  | [a] => by simp [asc]
  | a :: b :: r => by
    have ih := asc_at (l := b :: r)
    simp only [asc, Bool.and_eq_true, ih]
    constructor
    · rintro ⟨h1, h2⟩ j hj
      cases j with
      | zero => exact h1
      | succ j => exact h2 j (by simpa using hj)
    · intro h
      exact ⟨h 0 (by simp), fun j hj => h (j + 1) (by simpa using hj)⟩
theorem isTs_at {d n : Nat} {l : Ts} : isTs d n l = true ↔ ∀ j, (h : j < l.length) → isTm d n l[j] = true ∧ (∀ (h0 : 0 < j), bef (l[j - 1]'(by omega)).1 l[j].1 = true) := by
  unfold isTs
  rw [Bool.and_eq_true, List.all_eq_true, asc_at]
  constructor
  · rintro ⟨h1, h2⟩ j hj
    refine ⟨h1 _ (List.getElem_mem _), fun h0 => ?_⟩
    have := h2 (j - 1) (by omega)
    simpa only [Nat.sub_add_cancel h0] using this
  · intro h
    refine ⟨fun t ht => ?_, fun j hj => ?_⟩
    · obtain ⟨j, hj, rfl⟩ := List.getElem_of_mem ht
      exact (h j hj).1
    · have := (h (j + 1) hj).2 (by omega)
      simpa using this

/-- The coefficient at a word. -/
def co (l : Ts) (w : ByteArray) : Fr := match l.find? (fun t => decide (t.1 = w)) with
  | some t => t.2
  | none => (0, 1)
theorem co_nil (w : ByteArray) : co [] w = (0, 1) := rfl
theorem co_cons (t : Tm) (l : Ts) (w : ByteArray) : co (t :: l) w = if t.1 = w then t.2 else co l w := by
  unfold co
  rw [List.find?_cons]
  by_cases h : t.1 = w
  · simp [h]
  · rw [if_neg h, decide_eq_false h]
theorem co_none {l : Ts} {w : ByteArray} (h : ∀ t ∈ l, t.1 ≠ w) : co l w = (0, 1) := by
  induction l with
  | nil => rfl
  | cons t r ih => rw [co_cons, if_neg (h t List.mem_cons_self)]; exact ih fun u hu => h u (List.mem_cons_of_mem _ hu)
theorem co_mem {l : Ts} (hs : Srt l) {t : Tm} (ht : t ∈ l) : co l t.1 = t.2 := by
  induction l with
  | nil => cases ht
  | cons u r ih =>
    obtain ⟨h1, h2⟩ := List.pairwise_cons.1 hs
    rw [co_cons]
    rcases List.mem_cons.1 ht with rfl | ht
    · simp
    · rw [if_neg (bef_ne (h1 t ht))]; exact ih h2 ht
theorem co_zero_or {l : Ts} (w : ByteArray) : co l w = (0, 1) ∨ ∃ t ∈ l, t.1 = w ∧ co l w = t.2 := by
  induction l with
  | nil => exact .inl rfl
  | cons t r ih =>
    rw [co_cons]
    by_cases h : t.1 = w
    · exact .inr ⟨t, List.mem_cons_self, h, by rw [if_pos h]⟩
    · rw [if_neg h]
      rcases ih with e | ⟨u, hu, e, k⟩
      · exact .inl e
      · exact .inr ⟨u, List.mem_cons_of_mem _ hu, e, k⟩
theorem isTm_fr {d n : Nat} {t : Tm} (h : isTm d n t = true) : fr t.2 = true ∧ t.2.1 ≠ 0 ∧ isWd d t.1 = true ∧ t.1.size ≤ n := by
  simp only [isTm, Bool.and_eq_true, decide_eq_true_eq] at h
  exact ⟨h.2.2.1, h.2.2.2, h.1, h.2.1⟩
theorem fr_zero : fr (0, 1) = true := by decide
theorem co_fr {d n : Nat} {l : Ts} (h : isTs d n l = true) (w : ByteArray) : fr (co l w) = true := by
  rcases co_zero_or (l := l) w with e | ⟨t, ht, _, e⟩
  · rw [e]; exact fr_zero
  · rw [e]; exact (isTm_fr ((isTs_iff.1 h).1 t ht)).1
theorem mem_iff_co {d n : Nat} {l : Ts} (h : isTs d n l = true) (t : Tm) : t ∈ l ↔ co l t.1 = t.2 ∧ t.2.1 ≠ 0 := by
  obtain ⟨h1, h2⟩ := isTs_iff.1 h
  constructor
  · intro ht; exact ⟨co_mem h2 ht, (isTm_fr (h1 t ht)).2.1⟩
  · rintro ⟨hc, hn⟩
    rcases co_zero_or (l := l) t.1 with e | ⟨u, hu, e, k⟩
    · rw [e] at hc; rw [← hc] at hn; exact absurd rfl hn
    · have : u = t := Prod.ext e (k.symm.trans hc)
      exact this ▸ hu
/-- Ascending rows with the same terms are the same. -/
theorem srt_ext : ∀ {l m : Ts}, Srt l → Srt m → (∀ t, t ∈ l ↔ t ∈ m) → l = m
  | [], [], _, _, _ => rfl
  | [], b :: m, _, _, h => absurd ((h b).2 List.mem_cons_self) (by simp)
  | a :: l, [], _, _, h => absurd ((h a).1 List.mem_cons_self) (by simp)
  | a :: l, b :: m, hl, hm, h => by
    obtain ⟨l1, l2⟩ := List.pairwise_cons.1 hl
    obtain ⟨m1, m2⟩ := List.pairwise_cons.1 hm
    have e : a = b := by
      rcases List.mem_cons.1 ((h a).1 List.mem_cons_self) with e | ha
      · exact e
      · rcases List.mem_cons.1 ((h b).2 List.mem_cons_self) with e | hb
        · exact e.symm
        · have := bef_trans (m1 a ha) (l1 b hb)
          rw [bef_irrefl] at this; cases this
    subst e
    have : l = m := srt_ext l2 m2 fun t => by
      constructor
      · intro ht
        rcases List.mem_cons.1 ((h t).1 (List.mem_cons_of_mem _ ht)) with rfl | hm
        · have := l1 t ht; rw [bef_irrefl] at this; cases this
        · exact hm
      · intro ht
        rcases List.mem_cons.1 ((h t).2 (List.mem_cons_of_mem _ ht)) with rfl | hm
        · have := m1 t ht; rw [bef_irrefl] at this; cases this
        · exact hm
    rw [this]
theorem ts_ext {d n : Nat} {l m : Ts} (hl : isTs d n l = true) (hm : isTs d n m = true) (h : ∀ w, co l w = co m w) : l = m :=
  srt_ext (isTs_iff.1 hl).2 (isTs_iff.1 hm).2 fun t => by rw [mem_iff_co hl, mem_iff_co hm, h]

/-! ### fractions once more -/
theorem sgd_one {a b : Int} (h : isFr a b = true) : sgd a b = 1 := by
  obtain ⟨h1, h2, h3, h4, h5⟩ := (isFr_iff _ _).1 h
  unfold sgd; rw [if_neg (by omega), h5]; rfl
theorem frac_self {a b : Int} (h : isFr a b = true) : frac a b = some (a, b) := by
  have hs := sgd_one h
  have h1 := ((isFr_iff _ _).1 h).1
  have hn : rnum a b = a := by unfold rnum; rw [hs, Int.tdiv_one]
  have hd : rden a b = b := by unfold rden; rw [hs, Int.tdiv_one]
  rw [frac_ok (by omega) (by unfold okN; rw [hn, hd]; exact h), hn, hd]
theorem add_zero_left {a : Fr} (h : fr a = true) : add (0, 1) a = some a := by
  unfold add
  simp only [Int.zero_mul, Int.mul_one, Int.zero_add, Int.one_mul]
  exact frac_self h
theorem add_zero_right {a : Fr} (h : fr a = true) : add a (0, 1) = some a := by
  unfold add
  simp only [Int.zero_mul, Int.mul_one, Int.add_zero]
  exact frac_self h
theorem fr_num0 {a : Fr} (h : fr a = true) (h0 : a.1 = 0) : a = (0, 1) := by
  obtain ⟨h1, h2, h3, h4, h5⟩ := (isFr_iff _ _).1 h
  rw [h0, Int.gcd_zero_left] at h5
  exact Prod.ext h0 (by simp only; omega)
theorem add_fr {a b c : Fr} (h : add a b = some c) : fr c = true := frac_fr h
theorem mul_fr {a b c : Fr} (h : mul a b = some c) : fr c = true := frac_fr h

/-! ### putting -/
def put : Ts → ByteArray → Fr → Option Ts
  | [], w, a => some (if a.1 = 0 then [] else [(w, a)])
  | t :: r, w, a => if bef t.1 w = true then (put r w a).map (t :: ·) else if t.1 = w then (add t.2 a).map (fun s => if s.1 = 0 then r else (w, s) :: r) else some (if a.1 = 0 then t :: r else (w, a) :: t :: r)
def upd (f : ByteArray → Fr) (w : ByteArray) (a : Fr) : ByteArray → Fr := fun v => if v = w then a else f v
theorem isTm_mk {d n : Nat} {w : ByteArray} {a : Fr} (hw : isWd d w = true) (hn : w.size ≤ n) (ha : fr a = true) (h0 : a.1 ≠ 0) : isTm d n (w, a) = true := by
  unfold isTm; simp only [hw, Bool.true_and, Bool.and_eq_true, decide_eq_true_eq]; exact ⟨hn, ha, h0⟩
theorem put_co : ∀ {d n : Nat} {l : Ts} {w : ByteArray} {a : Fr}, isTs d n l = true → isWd d w = true → w.size ≤ n → fr a = true →
    (put l w a = none ∧ add (co l w) a = none) ∨ ∃ l' s, put l w a = some l' ∧ add (co l w) a = some s ∧ isTs d n l' = true ∧ (∀ v, co l' v = upd (co l) w s v) ∧ (∀ u ∈ l', u.1 = w ∨ ∃ t ∈ l, t.1 = u.1)
  | d, n, [], w, a, h, hw, hn, ha => by
    right
    rw [co_nil, add_zero_left ha]
    refine ⟨_, a, rfl, rfl, ?_, fun v => ?_, ?_⟩
    · by_cases h0 : a.1 = 0
      · rw [if_pos h0]; rfl
      · rw [if_neg h0, isTs_iff]; exact ⟨fun t ht => by rw [List.mem_singleton.1 ht]; exact isTm_mk hw hn ha h0, List.pairwise_singleton _ _⟩
    · unfold upd
      by_cases h0 : a.1 = 0
      · rw [if_pos h0, co_nil, fr_num0 ha h0]; split <;> rfl
      · rw [if_neg h0, co_cons, co_nil]; simp only [eq_comm]
    · by_cases h0 : a.1 = 0
      · rw [if_pos h0]; intro u hu; cases hu
      · rw [if_neg h0]; intro u hu; rw [List.mem_singleton.1 hu]; exact .inl rfl
  | d, n, t :: r, w, a, h, hw, hn, ha => by
    obtain ⟨h1, h2⟩ := isTs_iff.1 h
    obtain ⟨h3, h4⟩ := List.pairwise_cons.1 h2
    have hr : isTs d n r = true := isTs_iff.2 ⟨fun u hu => h1 u (List.mem_cons_of_mem _ hu), h4⟩
    by_cases hb : bef t.1 w = true
    · have hne := bef_ne hb
      rcases put_co hr hw hn ha with ⟨e1, e2⟩ | ⟨l', s, e1, e2, e3, e4, e5⟩
      · left
        refine ⟨by simp only [put, hb, if_true, e1]; rfl, by rw [co_cons, if_neg hne]; exact e2⟩
      · right
        refine ⟨t :: l', s, by simp only [put, hb, if_true, e1]; rfl, by rw [co_cons, if_neg hne]; exact e2, ?_, fun v => ?_, ?_⟩
        · obtain ⟨k1, k2⟩ := isTs_iff.1 e3
          refine isTs_iff.2 ⟨fun u hu => ?_, List.pairwise_cons.2 ⟨fun u hu => ?_, k2⟩⟩
          · rcases List.mem_cons.1 hu with rfl | hu
            · exact h1 _ List.mem_cons_self
            · exact k1 u hu
          · rcases e5 u hu with e | ⟨x, hx, e⟩
            · rw [e]; exact hb
            · rw [← e]; exact h3 x hx
        · rw [co_cons, e4]
          unfold upd
          rw [co_cons]
          by_cases hv : v = w
          · subst hv; rw [if_neg hne]; simp
          · simp only [hv, if_false]
        · intro u hu
          rcases List.mem_cons.1 hu with rfl | hu
          · exact .inr ⟨u, List.mem_cons_self, rfl⟩
          · rcases e5 u hu with e | ⟨x, hx, e⟩
            · exact .inl e
            · exact .inr ⟨x, List.mem_cons_of_mem _ hx, e⟩
    · by_cases he : t.1 = w
      · rw [co_cons, if_pos he]
        cases hs : add t.2 a with
        | none =>
          left
          exact ⟨by simp only [put, hb, he, if_true, hs]; simp [bef_irrefl, hs], rfl⟩
        | some s =>
          right
          have hfs := add_fr hs
          refine ⟨if s.1 = 0 then r else (w, s) :: r, s, by simp only [put]; rw [if_neg hb, if_pos he, hs]; rfl, rfl, ?_, fun v => ?_, ?_⟩
          · by_cases h0 : s.1 = 0
            · rw [if_pos h0]; exact hr
            · rw [if_neg h0]
              refine isTs_iff.2 ⟨fun u hu => ?_, List.pairwise_cons.2 ⟨fun u hu => ?_, h4⟩⟩
              · rcases List.mem_cons.1 hu with rfl | hu
                · exact isTm_mk hw hn hfs h0
                · exact h1 u (List.mem_cons_of_mem _ hu)
              · have := h3 u hu; rw [he] at this; exact this
          · unfold upd
            have hnr : co r w = (0, 1) := co_none fun u hu e => by have := h3 u hu; rw [he, e, bef_irrefl] at this; cases this
            by_cases h0 : s.1 = 0
            · rw [if_pos h0, co_cons, he]
              by_cases hv : v = w
              · subst hv; rw [if_pos rfl, hnr, fr_num0 hfs h0]
              · rw [if_neg hv, if_neg (fun e => hv e.symm)]
            · rw [if_neg h0, co_cons, co_cons, he]
              by_cases hv : v = w
              · subst hv; simp
              · rw [if_neg hv, if_neg (fun e => hv e.symm), if_neg (fun e => hv e.symm)]
          · intro u hu
            by_cases h0 : s.1 = 0
            · rw [if_pos h0] at hu; exact .inr ⟨u, List.mem_cons_of_mem _ hu, rfl⟩
            · rw [if_neg h0] at hu
              rcases List.mem_cons.1 hu with rfl | hu
              · exact .inl rfl
              · exact .inr ⟨u, List.mem_cons_of_mem _ hu, rfl⟩
      · right
        have hlt : bef w t.1 = true := by
          cases hh : bef w t.1 with
          | true => rfl
          | false => exact absurd (bef_tri (by simpa using hb) hh) he
        have hall : ∀ u ∈ t :: r, bef w u.1 = true := fun u hu => by
          rcases List.mem_cons.1 hu with rfl | hu
          · exact hlt
          · exact bef_trans hlt (h3 u hu)
        have hz : co (t :: r) w = (0, 1) := co_none fun u hu e => by have := hall u hu; rw [e, bef_irrefl] at this; cases this
        rw [hz, add_zero_left ha]
        refine ⟨if a.1 = 0 then t :: r else (w, a) :: t :: r, a, by simp only [put]; rw [if_neg hb, if_neg he], rfl, ?_, fun v => ?_, ?_⟩
        · by_cases h0 : a.1 = 0
          · rw [if_pos h0]; exact h
          · rw [if_neg h0]
            refine isTs_iff.2 ⟨fun u hu => ?_, List.pairwise_cons.2 ⟨hall, h2⟩⟩
            rcases List.mem_cons.1 hu with rfl | hu
            · exact isTm_mk hw hn ha h0
            · exact h1 u hu
        · unfold upd
          by_cases h0 : a.1 = 0
          · rw [if_pos h0]
            by_cases hv : v = w
            · subst hv; rw [if_pos rfl, hz, fr_num0 ha h0]
            · rw [if_neg hv]
          · rw [if_neg h0, co_cons (w, a)]
            simp only [eq_comm]
        · intro u hu
          by_cases h0 : a.1 = 0
          · rw [if_pos h0] at hu; exact .inr ⟨u, hu, rfl⟩
          · rw [if_neg h0] at hu
            rcases List.mem_cons.1 hu with rfl | hu
            · exact .inl rfl
            · exact .inr ⟨u, hu, rfl⟩
end Go.Proofs.Ytaheikponfmdiaa.M

/- Which sizes and rows of terms make a series. Conditions: none. -/
namespace Go.Proofs.Ytaheikponfmdiaa.M
/-- The sizes that a series may have. -/
def lev (d n : Int) : Bool := inR d 1 3 && (inR n 1 5 && (decide (d < 3) || decide (n ≤ 4)))
theorem lev_iff {d n : Int} : lev d n = true ↔ (1 ≤ d ∧ d ≤ 3) ∧ (1 ≤ n ∧ n ≤ 5) ∧ (d < 3 ∨ n ≤ 4) := by simp [lev, inR]
def isS (d n : Int) (l : Ts) : Bool := lev d n && isTs d.toNat n.toNat l
/-- No row and no word is greater than what a law lets in. -/
def bnd (l : Ts) : Bool := decide (l.length ≤ 1048576) && l.all fun t => decide (t.1.size ≤ 1048576)
theorem bnd_iff {l : Ts} : bnd l = true ↔ l.length ≤ 1048576 ∧ ∀ t ∈ l, t.1.size ≤ 1048576 := by simp [bnd]
theorem isS_bnd {d n : Int} {l : Ts} (hb : l.length ≤ 1048576) (h : isS d n l = true) : bnd l = true := by
  rw [isS, Bool.and_eq_true] at h
  refine bnd_iff.2 ⟨hb, fun t ht => ?_⟩
  have := (isTm_fr ((isTs_iff.1 h.2).1 t ht)).2.2.2
  have := (lev_iff.1 h.1).2.1
  omega
/-- Which of n operations are done, as a number's bits. -/
def bzL : Nat → Nat → List Bool
  | 0, _ => []
  | n + 1, m => (m % 2 == 1) :: bzL n (m / 2)
def bz (n m : Nat) : Array Bool := ⟨bzL n m⟩
end Go.Proofs.Ytaheikponfmdiaa.M
