/- Plain facts and contracts of functions that the law's walk uses. Conditions: those that stand in each statement. -/
import Derived.WalkKit
import Derived.Lib.IndexBytes
import Derived.Test.YtibjkjhpfmmjoaaProg
import Derived.Below
import Derived.Deep.Draws
import Derived.Deep.AppendLies
import Derived.Maps.AppendAt
import Derived.OwnWalk
import Derived.Laws.BytesArg
import Derived.Laws.MakeOwn
import Derived.Laws.OwnMore
import Derived.Deep.OwnRows
import Derived.Tactics
import Derived.Lib.ConvBytes
import Derived.Laws.Slices
import Derived.KernelRfl
import Derived.RowKit3
import Derived.Deep.LoopGhost
import Derived.Deep.QuietTactic
import Derived.BigQuiet
import Derived.WideLaws
import Derived.Deep.DeepCutAuto
import Derived.Deep.CutBlock
import Derived.Deep.RegionHeld3
import Derived.Laws.Rows
import Derived.Lib.AppendStr
import Derived.ArgAppend
import Derived.Laws.IdiomCopy
import Derived.OrdersHeld
import Derived.Laws.BitsLemmas
import Derived.RowKit
import Derived.Lib.Hide
import Derived.Test.YtibjkjhpfmmjoaaWWords
import Derived.Test.YtibjkjhpfmmjoaaWLast
import Derived.Test.YtibjkjhpfmmjoaaWMore
import Derived.Test.YtibjkjhpfmmjoaaWRepsOne
import Derived.Lib.Bytealg
import Derived.Lib.Walk
import Derived.Deep.Slices
import Derived.Deep.Strs
import Derived.Lib.SmallJoins
import Derived.OpenShut

/- Plain facts on whole numbers and fractions: greatest common divisors, lowest terms, what fits. Nothing of the program. Conditions: none. -/
namespace Go.Proofs.Ytibjkjhpfmmjoaa.M
set_option linter.unusedVariables false
set_option linter.unusedSimpArgs false

theorem gcd_tmod (a b : Int) : Int.gcd b (a.tmod b) = Int.gcd a b := by
  unfold Int.gcd
  rw [Int.natAbs_tmod, Nat.gcd_comm, ← Nat.gcd_rec, Nat.gcd_comm]
theorem tmod_lt {a b : Int} (h : b ≠ 0) : (a.tmod b).natAbs < b.natAbs := by
  rw [Int.natAbs_tmod]; exact Nat.mod_lt _ (by omega)
theorem tmod_le (a b : Int) : (a.tmod b).natAbs ≤ a.natAbs := by
  rw [Int.natAbs_tmod]; exact Nat.mod_le _ _

/-- b ≤ a ≤ c, as one Bool. -/
def inR (a b c : Int) : Bool := decide (b ≤ a ∧ a ≤ c)
theorem inR_iff (a b c : Int) : inR a b c = true ↔ b ≤ a ∧ a ≤ c := by simp [inR]
/-- a / b is a fraction. -/
def isFr (a b : Int) : Bool := inR b 1 1000000000 && (inR a (-1000000000) 1000000000 && decide ((Int.gcd a b : Int) = 1))
theorem isFr_iff (a b : Int) : isFr a b = true ↔ 1 ≤ b ∧ b ≤ 1000000000 ∧ -1000000000 ≤ a ∧ a ≤ 1000000000 ∧ Int.gcd a b = 1 := by
  unfold isFr
  simp only [Bool.and_eq_true, inR_iff, decide_eq_true_eq]
  omega

/-- The divisor with the sign of the denominator; numerator and denominator in lowest terms. -/
def sgd (a b : Int) : Int := if b < 0 then -(Int.gcd a b : Int) else (Int.gcd a b : Int)
def rnum (a b : Int) : Int := Int.tdiv a (sgd a b)
def rden (a b : Int) : Int := Int.tdiv b (sgd a b)
/-- a / b in lowest terms fits. -/
def okN (a b : Int) : Bool := isFr (rnum a b) (rden a b)
/-- a / b in lowest terms, if it fits. -/
def frac (a b : Int) : Option (Int × Int) := if b ≠ 0 ∧ okN a b = true then some (rnum a b, rden a b) else none

theorem gcd_pos {a b : Int} (h : b ≠ 0) : 0 < (Int.gcd a b : Int) := by
  have : Int.gcd a b ≠ 0 := by rw [Ne, Int.gcd_eq_zero_iff]; omega
  omega
theorem gcd_le {a b : Int} (h : b ≠ 0) : (Int.gcd a b : Int) ≤ b.natAbs := by
  have : Int.gcd a b ≤ b.natAbs := Nat.gcd_le_right _ (by omega)
  omega
theorem sgd_ne {a b : Int} (h : b ≠ 0) : sgd a b ≠ 0 := by
  unfold sgd; have := gcd_pos (a := a) h; split <;> omega
theorem tdiv_abs (a d : Int) : (Int.tdiv a d).natAbs ≤ a.natAbs := by
  rw [Int.natAbs_tdiv]; exact Nat.div_le_self _ _
theorem rnum_abs (a b : Int) : (rnum a b).natAbs ≤ a.natAbs := tdiv_abs _ _
theorem rden_abs (a b : Int) : (rden a b).natAbs ≤ b.natAbs := tdiv_abs _ _

abbrev Fr := Int × Int
/-- A pair that is a fraction. -/
def fr (a : Fr) : Bool := isFr a.1 a.2
/-- Both parts are at most 10^9 in size. -/
def small (a : Fr) : Prop := -1000000000 ≤ a.1 ∧ a.1 ≤ 1000000000 ∧ -1000000000 ≤ a.2 ∧ a.2 ≤ 1000000000
theorem fr_small {a : Fr} (h : fr a = true) : small a := by
  have := (isFr_iff _ _).1 h; unfold small; omega
theorem fr_den {a : Fr} (h : fr a = true) : 1 ≤ a.2 := ((isFr_iff _ _).1 h).1
def add (a b : Fr) : Option Fr := frac (a.1 * b.2 + b.1 * a.2) (a.2 * b.2)
def mul (a b : Fr) : Option Fr := frac (a.1 * b.1) (a.2 * b.2)
theorem mul_abs {a b : Int} {m n : Nat} (ha : a.natAbs ≤ m) (hb : b.natAbs ≤ n) : (a * b).natAbs ≤ m * n := by
  rw [Int.natAbs_mul]; exact Nat.mul_le_mul ha hb
theorem small_mul {a b : Int} (ha : -1000000000 ≤ a ∧ a ≤ 1000000000) (hb : -1000000000 ≤ b ∧ b ≤ 1000000000) : -1000000000000000000 ≤ a * b ∧ a * b ≤ 1000000000000000000 := by
  have := mul_abs (a := a) (b := b) (m := 1000000000) (n := 1000000000) (by omega) (by omega)
  omega
theorem frac_fr {a b : Int} {c : Fr} (h : frac a b = some c) : fr c = true := by
  unfold frac at h
  split at h
  · rename_i hh; injection h with h; subst h; exact hh.2
  · cases h
theorem frac_ok {a b : Int} (h : b ≠ 0) (hk : okN a b = true) : frac a b = some (rnum a b, rden a b) := by unfold frac; rw [if_pos ⟨h, hk⟩]
theorem frac_bad {a b : Int} (hk : okN a b = false) : frac a b = none := by unfold frac; rw [if_neg (by simp [hk])]
theorem frac_zero (a : Int) : frac a 0 = none := by unfold frac; rw [if_neg (by simp)]
/-- What sums, products and quotients of fractions are told as: the fraction, or the code 3. -/
def told : Option Fr → Fr × Int
  | some c => (c, 0)
  | none => ((0, 0), 3)
/-- What l01Frac returns, as values. -/
def sfrac : Option Fr → Fr × Bool
  | some c => (c, true)
  | none => ((0, 0), false)
theorem wrap_id {x : Int} (h0 : -9223372036854775808 ≤ x) (h1 : x ≤ 9223372036854775807) : Go.RowKit.wrap64 x = x := by
  unfold Go.RowKit.wrap64; omega
end Go.Proofs.Ytibjkjhpfmmjoaa.M

/- The plain words of n letters: what spec.l01Words makes. -/
namespace Go.Proofs.Ytibjkjhpfmmjoaa.M
/-- A letter as a text. -/
def letter (q : Nat) : ByteArray := ⟨#[(48 + q).toUInt8]⟩
/-- All words one letter longer, of the first i words, and of the next one with its first k letters. -/
def nextWords (d : Nat) (out : List ByteArray) : List ByteArray := out.flatMap fun s => (List.range d).map fun k => s ++ letter k
/-- All words of n letters in order. -/
def wordsN (d : Nat) : Nat → List ByteArray
  | 0 => [⟨#[]⟩]
  | n + 1 => nextWords d (wordsN d n)
theorem nextWords_take (d : Nat) (out : List ByteArray) (i : Nat) (h : i < out.length) :
    nextWords d (out.take (i + 1)) = nextWords d (out.take i) ++ (List.range d).map fun k => out[i] ++ letter k := by
  unfold nextWords
  rw [List.take_succ_eq_append_getElem h, List.flatMap_append]
  simp
theorem nextWords_length (d : Nat) (out : List ByteArray) : (nextWords d out).length = out.length * d := by
  unfold nextWords
  induction out with
  | nil => simp
  | cons s r ih => rw [List.flatMap_cons, List.length_append, ih, List.length_map, List.length_range, List.length_cons, Nat.add_mul, Nat.one_mul, Nat.add_comm]
theorem wordsN_length (d n : Nat) : (wordsN d n).length = d ^ n := by
  induction n with
  | zero => rfl
  | succ n ih => rw [wordsN, nextWords_length, ih, Nat.pow_succ]
theorem wordsN_le {d n : Nat} (hd : d ≤ 3) (hn : n ≤ 8) : (wordsN d n).length ≤ 6561 := by
  rw [wordsN_length]
  exact Nat.le_trans (Nat.pow_le_pow_left hd n) (Nat.pow_le_pow_right (n := 3) (by omega) hn)
theorem wordsN_size {d : Nat} : ∀ {n : Nat} {s : ByteArray}, s ∈ wordsN d n → s.size = n
  | 0, s, h => by
    obtain rfl : s = ⟨#[]⟩ := by simpa [wordsN] using h
    rfl
  | n + 1, s, h => by
    simp only [wordsN, nextWords, List.mem_flatMap, List.mem_map, List.mem_range] at h
    obtain ⟨t, ht, q, hq, rfl⟩ := h
    have := wordsN_size ht
    rw [ByteArray.size_append, this]; rfl
theorem getD_mem {l : List ByteArray} {j : Nat} (h : j < l.length) : l.getD j ByteArray.empty ∈ l := by
  rw [List.getD_eq_getElem?_getD, List.getElem?_eq_getElem h]; exact List.getElem_mem _
/-- A row of next words in the making: all of the first j words, q of the next one. -/
def makingW (d : Nat) (ws : List ByteArray) (j q : Nat) : List ByteArray := nextWords d (ws.take j) ++ (List.range q).map fun k => ws.getD j ByteArray.empty ++ letter k
theorem makingW_zero (d : Nat) (ws : List ByteArray) (j : Nat) : makingW d ws j 0 = nextWords d (ws.take j) := by simp [makingW]
theorem makingW_next (d : Nat) (ws : List ByteArray) (j q : Nat) : makingW d ws j (q + 1) = makingW d ws j q ++ [ws.getD j ByteArray.empty ++ letter q] := by
  unfold makingW; rw [List.range_succ, List.map_append, List.append_assoc]; rfl
theorem makingW_end (d : Nat) (ws : List ByteArray) (j : Nat) (h : j < ws.length) : makingW d ws j d = nextWords d (ws.take (j + 1)) := by
  unfold makingW; rw [nextWords_take d ws j h, List.getD_eq_getElem?_getD, List.getElem?_eq_getElem h]; rfl
theorem makingW_le {d : Nat} {ws : List ByteArray} (hd : d ≤ 3) (hw : ws.length ≤ 6561) (j q : Nat) (hq : q ≤ 3) : (makingW d ws j q).length ≤ 20000 := by
  unfold makingW
  rw [List.length_append, nextWords_length, List.length_map, List.length_range, List.length_take]
  have : min j ws.length * d ≤ 6561 * 3 := Nat.mul_le_mul (by omega) hd
  omega
end Go.Proofs.Ytibjkjhpfmmjoaa.M

/- Plain facts on words, their order and their numbers, and on rows of terms. Nothing of the program. Conditions: none. -/
namespace Go.Proofs.Ytibjkjhpfmmjoaa.M
set_option linter.unusedVariables false
set_option linter.unusedSimpArgs false

/-! ### words -/
def bl (s : ByteArray) : List UInt8 := s.data.toList
theorem bl_ext {s t : ByteArray} (h : bl s = bl t) : s = t := by
  cases s; cases t; simp only [bl] at h; congr; exact Array.toList_inj.1 h
theorem bl_len (s : ByteArray) : (bl s).length = s.size := by simp [bl]
theorem bl_append (s t : ByteArray) : bl (s ++ t) = bl s ++ bl t := by simp [bl]
theorem bl_letter (q : Nat) : bl (letter q) = [(48 + q).toUInt8] := rfl
/-- A word for d letters. -/
def isWL (d : Nat) (l : List UInt8) : Bool := l.all fun c => decide (48 ≤ c.toNat ∧ c.toNat < 48 + d)
def isWd (d : Nat) (s : ByteArray) : Bool := isWL d (bl s)
theorem letter_nat {q : Nat} (h : q < 10) : (48 + q).toUInt8.toNat = 48 + q := by
  have : (48 + q) % 256 = 48 + q := by omega
  simpa using this

/-! ### the order -/
abbrev bless := Go.Op.bytesLess
theorem bless_irrefl : ∀ l : List UInt8, bless l l = false
  | [] => rfl
  | a :: x => by simp [bless, Go.Op.bytesLess, bless_irrefl x]
theorem bless_trans : ∀ {a b c : List UInt8}, bless a b = true → bless b c = true → bless a c = true
  | _, [], _, h, _ => by cases ‹List UInt8› <;> simp [bless, Go.Op.bytesLess] at h
  | [], b :: y, [], _, k => by simp [bless, Go.Op.bytesLess] at k
  | [], b :: y, c :: z, _, _ => by simp [bless, Go.Op.bytesLess]
  | a :: x, b :: y, [], _, k => by simp [bless, Go.Op.bytesLess] at k
  | a :: x, b :: y, c :: z, h, k => by
    simp only [bless, Go.Op.bytesLess, Bool.or_eq_true, Bool.and_eq_true, decide_eq_true_eq, beq_iff_eq] at h k ⊢
    rcases h with h | ⟨rfl, h⟩
    · rcases k with k | ⟨rfl, k⟩
      · exact .inl (UInt8.lt_trans h k)
      · exact .inl h
    · rcases k with k | ⟨rfl, k⟩
      · exact .inl k
      · exact .inr ⟨rfl, bless_trans h k⟩
theorem bless_tri : ∀ {a b : List UInt8}, bless a b = false → bless b a = false → a = b
  | [], [], _, _ => rfl
  | [], b :: y, h, _ => by simp [bless, Go.Op.bytesLess] at h
  | a :: x, [], _, k => by simp [bless, Go.Op.bytesLess] at k
  | a :: x, b :: y, h, k => by
    simp only [bless, Go.Op.bytesLess, Bool.or_eq_false_iff, Bool.and_eq_false_iff, decide_eq_false_iff_not, beq_eq_false_iff_ne] at h k
    have e : a = b := by
      have h1 : ¬ a.toNat < b.toNat := by simpa [UInt8.lt_iff_toNat_lt] using h.1
      have k1 : ¬ b.toNat < a.toNat := by simpa [UInt8.lt_iff_toNat_lt] using k.1
      exact UInt8.toNat_inj.1 (by omega)
    subst e
    rw [bless_tri (h.2.resolve_left (fun hn => hn rfl)) (k.2.resolve_left (fun hn => hn rfl))]
/-- Words by their lengths, then as texts. -/
def befL (v w : List UInt8) : Bool := if v.length = w.length then bless v w else decide (v.length < w.length)
def bef (v w : ByteArray) : Bool := befL (bl v) (bl w)
theorem befL_irrefl (v : List UInt8) : befL v v = false := by simp [befL, bless_irrefl]
theorem befL_trans {a b c : List UInt8} (h : befL a b = true) (k : befL b c = true) : befL a c = true := by
  unfold befL at *
  by_cases h1 : a.length = b.length <;> by_cases h2 : b.length = c.length
  · rw [if_pos h1] at h; rw [if_pos h2] at k; rw [if_pos (h1.trans h2)]; exact bless_trans h k
  · rw [if_neg h2] at k; rw [if_neg (by omega)]; simp at k ⊢; omega
  · rw [if_neg h1] at h; rw [if_neg (by omega)]; simp at h ⊢; omega
  · rw [if_neg h1] at h; rw [if_neg h2] at k; simp at h k; rw [if_neg (by omega)]; simp; omega
theorem befL_tri {a b : List UInt8} (h : befL a b = false) (k : befL b a = false) : a = b := by
  unfold befL at *
  by_cases h1 : a.length = b.length
  · rw [if_pos h1] at h; rw [if_pos h1.symm] at k; exact bless_tri h k
  · rw [if_neg h1] at h; rw [if_neg (by omega)] at k; simp at h k; omega
theorem bef_irrefl (v : ByteArray) : bef v v = false := befL_irrefl _
theorem bef_trans {a b c : ByteArray} (h : bef a b = true) (k : bef b c = true) : bef a c = true := befL_trans h k
theorem bef_tri {a b : ByteArray} (h : bef a b = false) (k : bef b a = false) : a = b := bl_ext (befL_tri h k)
theorem bef_ne {a b : ByteArray} (h : bef a b = true) : a ≠ b := fun e => by rw [e, bef_irrefl] at h; cases h

/-! ### rows of terms -/
abbrev Tm := ByteArray × Int × Int
abbrev Ts := List Tm
def isTm (d n : Nat) (t : Tm) : Bool := isWd d t.1 && (decide (t.1.size ≤ n) && (isFr t.2.1 t.2.2 && decide (t.2.1 ≠ 0)))
/-- The terms' words ascend. -/
def asc : Ts → Bool
  | a :: b :: r => bef a.1 b.1 && asc (b :: r)
  | _ => true
def isTs (d n : Nat) (l : Ts) : Bool := l.all (isTm d n) && asc l
def Srt (l : Ts) : Prop := l.Pairwise fun a b => bef a.1 b.1 = true
theorem asc_srt : ∀ {l : Ts}, asc l = true ↔ Srt l
  | [] => by simp [asc, Srt]
  | [a] => by simp [asc, Srt]
  | a :: b :: r => by
    have ih := asc_srt (l := b :: r)
    unfold Srt at *
    rw [List.pairwise_cons]
    simp only [asc, Bool.and_eq_true]
    constructor
    · rintro ⟨h1, h2⟩
      have h3 := ih.1 h2
      refine ⟨fun c hc => ?_, h3⟩
      rcases List.mem_cons.1 hc with rfl | hc
      · exact h1
      · exact bef_trans h1 ((List.pairwise_cons.1 h3).1 c hc)
    · rintro ⟨h1, h2⟩
      exact ⟨h1 b List.mem_cons_self, ih.2 h2⟩
theorem isTs_iff {d n : Nat} {l : Ts} : isTs d n l = true ↔ (∀ t ∈ l, isTm d n t = true) ∧ Srt l := by
  unfold isTs; rw [Bool.and_eq_true, List.all_eq_true, asc_srt]
/-- The check, place by place. -/
theorem asc_at : ∀ {l : Ts}, asc l = true ↔ ∀ j, (h : j + 1 < l.length) → bef (l[j]'(by omega)).1 l[j + 1].1 = true
  | [] => by simp [asc]
  | [a] => by simp [asc]
  | a :: b :: r => by
    have ih := asc_at (l := b :: r)
    simp only [asc, Bool.and_eq_true, ih]
    constructor
    · rintro ⟨h1, h2⟩ j hj
      cases j with
      | zero => exact h1
      | succ j => exact h2 j (by simpa using hj)
    · intro h
      exact ⟨h 0 (by simp), fun j hj => h (j + 1) (by simpa using hj)⟩
theorem isTs_at {d n : Nat} {l : Ts} : isTs d n l = true ↔ ∀ j, (h : j < l.length) → isTm d n l[j] = true ∧ (∀ (h0 : 0 < j), bef (l[j - 1]'(by omega)).1 l[j].1 = true) := by
  unfold isTs
  rw [Bool.and_eq_true, List.all_eq_true, asc_at]
  constructor
  · rintro ⟨h1, h2⟩ j hj
    refine ⟨h1 _ (List.getElem_mem _), fun h0 => ?_⟩
    have := h2 (j - 1) (by omega)
    simpa only [Nat.sub_add_cancel h0] using this
  · intro h
    refine ⟨fun t ht => ?_, fun j hj => ?_⟩
    · obtain ⟨j, hj, rfl⟩ := List.getElem_of_mem ht
      exact (h j hj).1
    · have := (h (j + 1) hj).2 (by omega)
      simpa using this

/-- The coefficient at a word. -/
def co (l : Ts) (w : ByteArray) : Fr := match l.find? (fun t => decide (t.1 = w)) with
  | some t => t.2
  | none => (0, 1)
theorem co_nil (w : ByteArray) : co [] w = (0, 1) := rfl
theorem co_cons (t : Tm) (l : Ts) (w : ByteArray) : co (t :: l) w = if t.1 = w then t.2 else co l w := by
  unfold co
  rw [List.find?_cons]
  by_cases h : t.1 = w
  · simp [h]
  · rw [if_neg h, decide_eq_false h]
theorem co_none {l : Ts} {w : ByteArray} (h : ∀ t ∈ l, t.1 ≠ w) : co l w = (0, 1) := by
  induction l with
  | nil => rfl
  | cons t r ih => rw [co_cons, if_neg (h t List.mem_cons_self)]; exact ih fun u hu => h u (List.mem_cons_of_mem _ hu)
theorem co_mem {l : Ts} (hs : Srt l) {t : Tm} (ht : t ∈ l) : co l t.1 = t.2 := by
  induction l with
  | nil => cases ht
  | cons u r ih =>
    obtain ⟨h1, h2⟩ := List.pairwise_cons.1 hs
    rw [co_cons]
    rcases List.mem_cons.1 ht with rfl | ht
    · simp
    · rw [if_neg (bef_ne (h1 t ht))]; exact ih h2 ht
theorem co_zero_or {l : Ts} (w : ByteArray) : co l w = (0, 1) ∨ ∃ t ∈ l, t.1 = w ∧ co l w = t.2 := by
  induction l with
  | nil => exact .inl rfl
  | cons t r ih =>
    rw [co_cons]
    by_cases h : t.1 = w
    · exact .inr ⟨t, List.mem_cons_self, h, by rw [if_pos h]⟩
    · rw [if_neg h]
      rcases ih with e | ⟨u, hu, e, k⟩
      · exact .inl e
      · exact .inr ⟨u, List.mem_cons_of_mem _ hu, e, k⟩
theorem isTm_fr {d n : Nat} {t : Tm} (h : isTm d n t = true) : fr t.2 = true ∧ t.2.1 ≠ 0 ∧ isWd d t.1 = true ∧ t.1.size ≤ n := by
  simp only [isTm, Bool.and_eq_true, decide_eq_true_eq] at h
  exact ⟨h.2.2.1, h.2.2.2, h.1, h.2.1⟩
theorem fr_zero : fr (0, 1) = true := by decide
theorem co_fr {d n : Nat} {l : Ts} (h : isTs d n l = true) (w : ByteArray) : fr (co l w) = true := by
  rcases co_zero_or (l := l) w with e | ⟨t, ht, _, e⟩
  · rw [e]; exact fr_zero
  · rw [e]; exact (isTm_fr ((isTs_iff.1 h).1 t ht)).1
theorem mem_iff_co {d n : Nat} {l : Ts} (h : isTs d n l = true) (t : Tm) : t ∈ l ↔ co l t.1 = t.2 ∧ t.2.1 ≠ 0 := by
  obtain ⟨h1, h2⟩ := isTs_iff.1 h
  constructor
  · intro ht; exact ⟨co_mem h2 ht, (isTm_fr (h1 t ht)).2.1⟩
  · rintro ⟨hc, hn⟩
    rcases co_zero_or (l := l) t.1 with e | ⟨u, hu, e, k⟩
    · rw [e] at hc; rw [← hc] at hn; exact absurd rfl hn
    · have : u = t := Prod.ext e (k.symm.trans hc)
      exact this ▸ hu
/-- Ascending rows with the same terms are the same. -/
theorem srt_ext : ∀ {l m : Ts}, Srt l → Srt m → (∀ t, t ∈ l ↔ t ∈ m) → l = m
  | [], [], _, _, _ => rfl
  | [], b :: m, _, _, h => absurd ((h b).2 List.mem_cons_self) (by simp)
  | a :: l, [], _, _, h => absurd ((h a).1 List.mem_cons_self) (by simp)
  | a :: l, b :: m, hl, hm, h => by
    obtain ⟨l1, l2⟩ := List.pairwise_cons.1 hl
    obtain ⟨m1, m2⟩ := List.pairwise_cons.1 hm
    have e : a = b := by
      rcases List.mem_cons.1 ((h a).1 List.mem_cons_self) with e | ha
      · exact e
      · rcases List.mem_cons.1 ((h b).2 List.mem_cons_self) with e | hb
        · exact e.symm
        · have := bef_trans (m1 a ha) (l1 b hb)
          rw [bef_irrefl] at this; cases this
    subst e
    have : l = m := srt_ext l2 m2 fun t => by
      constructor
      · intro ht
        rcases List.mem_cons.1 ((h t).1 (List.mem_cons_of_mem _ ht)) with rfl | hm
        · have := l1 t ht; rw [bef_irrefl] at this; cases this
        · exact hm
      · intro ht
        rcases List.mem_cons.1 ((h t).2 (List.mem_cons_of_mem _ ht)) with rfl | hm
        · have := m1 t ht; rw [bef_irrefl] at this; cases this
        · exact hm
    rw [this]
theorem ts_ext {d n : Nat} {l m : Ts} (hl : isTs d n l = true) (hm : isTs d n m = true) (h : ∀ w, co l w = co m w) : l = m :=
  srt_ext (isTs_iff.1 hl).2 (isTs_iff.1 hm).2 fun t => by rw [mem_iff_co hl, mem_iff_co hm, h]

/-! ### fractions once more -/
theorem sgd_one {a b : Int} (h : isFr a b = true) : sgd a b = 1 := by
  obtain ⟨h1, h2, h3, h4, h5⟩ := (isFr_iff _ _).1 h
  unfold sgd; rw [if_neg (by omega), h5]; rfl
theorem frac_self {a b : Int} (h : isFr a b = true) : frac a b = some (a, b) := by
  have hs := sgd_one h
  have h1 := ((isFr_iff _ _).1 h).1
  have hn : rnum a b = a := by unfold rnum; rw [hs, Int.tdiv_one]
  have hd : rden a b = b := by unfold rden; rw [hs, Int.tdiv_one]
  rw [frac_ok (by omega) (by unfold okN; rw [hn, hd]; exact h), hn, hd]
theorem add_zero_left {a : Fr} (h : fr a = true) : add (0, 1) a = some a := by
  unfold add
  simp only [Int.zero_mul, Int.mul_one, Int.zero_add, Int.one_mul]
  exact frac_self h
theorem fr_num0 {a : Fr} (h : fr a = true) (h0 : a.1 = 0) : a = (0, 1) := by
  obtain ⟨h1, h2, h3, h4, h5⟩ := (isFr_iff _ _).1 h
  rw [h0, Int.gcd_zero_left] at h5
  exact Prod.ext h0 (by simp only; omega)
theorem add_fr {a b c : Fr} (h : add a b = some c) : fr c = true := frac_fr h
theorem mul_fr {a b c : Fr} (h : mul a b = some c) : fr c = true := frac_fr h

/-! ### putting -/
def put : Ts → ByteArray → Fr → Option Ts
  | [], w, a => some (if a.1 = 0 then [] else [(w, a)])
  | t :: r, w, a => if bef t.1 w = true then (put r w a).map (t :: ·) else if t.1 = w then (add t.2 a).map (fun s => if s.1 = 0 then r else (w, s) :: r) else some (if a.1 = 0 then t :: r else (w, a) :: t :: r)
def upd (f : ByteArray → Fr) (w : ByteArray) (a : Fr) : ByteArray → Fr := fun v => if v = w then a else f v
theorem isTm_mk {d n : Nat} {w : ByteArray} {a : Fr} (hw : isWd d w = true) (hn : w.size ≤ n) (ha : fr a = true) (h0 : a.1 ≠ 0) : isTm d n (w, a) = true := by
  unfold isTm; simp only [hw, Bool.true_and, Bool.and_eq_true, decide_eq_true_eq]; exact ⟨hn, ha, h0⟩
theorem put_co : ∀ {d n : Nat} {l : Ts} {w : ByteArray} {a : Fr}, isTs d n l = true → isWd d w = true → w.size ≤ n → fr a = true →
    (put l w a = none ∧ add (co l w) a = none) ∨ ∃ l' s, put l w a = some l' ∧ add (co l w) a = some s ∧ isTs d n l' = true ∧ (∀ v, co l' v = upd (co l) w s v) ∧ (∀ u ∈ l', u.1 = w ∨ ∃ t ∈ l, t.1 = u.1)
  | d, n, [], w, a, h, hw, hn, ha => by
    right
    rw [co_nil, add_zero_left ha]
    refine ⟨_, a, rfl, rfl, ?_, fun v => ?_, ?_⟩
    · by_cases h0 : a.1 = 0
      · rw [if_pos h0]; rfl
      · rw [if_neg h0, isTs_iff]; exact ⟨fun t ht => by rw [List.mem_singleton.1 ht]; exact isTm_mk hw hn ha h0, List.pairwise_singleton _ _⟩
    · unfold upd
      by_cases h0 : a.1 = 0
      · rw [if_pos h0, co_nil, fr_num0 ha h0]; split <;> rfl
      · rw [if_neg h0, co_cons, co_nil]; simp only [eq_comm]
    · by_cases h0 : a.1 = 0
      · rw [if_pos h0]; intro u hu; cases hu
      · rw [if_neg h0]; intro u hu; rw [List.mem_singleton.1 hu]; exact .inl rfl
  | d, n, t :: r, w, a, h, hw, hn, ha => by
    obtain ⟨h1, h2⟩ := isTs_iff.1 h
    obtain ⟨h3, h4⟩ := List.pairwise_cons.1 h2
    have hr : isTs d n r = true := isTs_iff.2 ⟨fun u hu => h1 u (List.mem_cons_of_mem _ hu), h4⟩
    by_cases hb : bef t.1 w = true
    · have hne := bef_ne hb
      rcases put_co hr hw hn ha with ⟨e1, e2⟩ | ⟨l', s, e1, e2, e3, e4, e5⟩
      · left
        refine ⟨by simp only [put, hb, if_true, e1]; rfl, by rw [co_cons, if_neg hne]; exact e2⟩
      · right
        refine ⟨t :: l', s, by simp only [put, hb, if_true, e1]; rfl, by rw [co_cons, if_neg hne]; exact e2, ?_, fun v => ?_, ?_⟩
        · obtain ⟨k1, k2⟩ := isTs_iff.1 e3
          refine isTs_iff.2 ⟨fun u hu => ?_, List.pairwise_cons.2 ⟨fun u hu => ?_, k2⟩⟩
          · rcases List.mem_cons.1 hu with rfl | hu
            · exact h1 _ List.mem_cons_self
            · exact k1 u hu
          · rcases e5 u hu with e | ⟨x, hx, e⟩
            · rw [e]; exact hb
            · rw [← e]; exact h3 x hx
        · rw [co_cons, e4]
          unfold upd
          rw [co_cons]
          by_cases hv : v = w
          · subst hv; rw [if_neg hne]; simp
          · simp only [hv, if_false]
        · intro u hu
          rcases List.mem_cons.1 hu with rfl | hu
          · exact .inr ⟨u, List.mem_cons_self, rfl⟩
          · rcases e5 u hu with e | ⟨x, hx, e⟩
            · exact .inl e
            · exact .inr ⟨x, List.mem_cons_of_mem _ hx, e⟩
    · by_cases he : t.1 = w
      · rw [co_cons, if_pos he]
        cases hs : add t.2 a with
        | none =>
          left
          exact ⟨by simp only [put, hb, he, if_true, hs]; simp [bef_irrefl, hs], rfl⟩
        | some s =>
          right
          have hfs := add_fr hs
          refine ⟨if s.1 = 0 then r else (w, s) :: r, s, by simp only [put]; rw [if_neg hb, if_pos he, hs]; rfl, rfl, ?_, fun v => ?_, ?_⟩
          · by_cases h0 : s.1 = 0
            · rw [if_pos h0]; exact hr
            · rw [if_neg h0]
              refine isTs_iff.2 ⟨fun u hu => ?_, List.pairwise_cons.2 ⟨fun u hu => ?_, h4⟩⟩
              · rcases List.mem_cons.1 hu with rfl | hu
                · exact isTm_mk hw hn hfs h0
                · exact h1 u (List.mem_cons_of_mem _ hu)
              · have := h3 u hu; rw [he] at this; exact this
          · unfold upd
            have hnr : co r w = (0, 1) := co_none fun u hu e => by have := h3 u hu; rw [he, e, bef_irrefl] at this; cases this
            by_cases h0 : s.1 = 0
            · rw [if_pos h0, co_cons, he]
              by_cases hv : v = w
              · subst hv; rw [if_pos rfl, hnr, fr_num0 hfs h0]
              · rw [if_neg hv, if_neg (fun e => hv e.symm)]
            · rw [if_neg h0, co_cons, co_cons, he]
              by_cases hv : v = w
              · subst hv; simp
              · rw [if_neg hv, if_neg (fun e => hv e.symm), if_neg (fun e => hv e.symm)]
          · intro u hu
            by_cases h0 : s.1 = 0
            · rw [if_pos h0] at hu; exact .inr ⟨u, List.mem_cons_of_mem _ hu, rfl⟩
            · rw [if_neg h0] at hu
              rcases List.mem_cons.1 hu with rfl | hu
              · exact .inl rfl
              · exact .inr ⟨u, List.mem_cons_of_mem _ hu, rfl⟩
      · right
        have hlt : bef w t.1 = true := by
          cases hh : bef w t.1 with
          | true => rfl
          | false => exact absurd (bef_tri (by simpa using hb) hh) he
        have hall : ∀ u ∈ t :: r, bef w u.1 = true := fun u hu => by
          rcases List.mem_cons.1 hu with rfl | hu
          · exact hlt
          · exact bef_trans hlt (h3 u hu)
        have hz : co (t :: r) w = (0, 1) := co_none fun u hu e => by have := hall u hu; rw [e, bef_irrefl] at this; cases this
        rw [hz, add_zero_left ha]
        refine ⟨if a.1 = 0 then t :: r else (w, a) :: t :: r, a, by simp only [put]; rw [if_neg hb, if_neg he], rfl, ?_, fun v => ?_, ?_⟩
        · by_cases h0 : a.1 = 0
          · rw [if_pos h0]; exact h
          · rw [if_neg h0]
            refine isTs_iff.2 ⟨fun u hu => ?_, List.pairwise_cons.2 ⟨hall, h2⟩⟩
            rcases List.mem_cons.1 hu with rfl | hu
            · exact isTm_mk hw hn ha h0
            · exact h1 u hu
        · unfold upd
          by_cases h0 : a.1 = 0
          · rw [if_pos h0]
            by_cases hv : v = w
            · subst hv; rw [if_pos rfl, hz, fr_num0 ha h0]
            · rw [if_neg hv]
          · rw [if_neg h0, co_cons (w, a)]
            simp only [eq_comm]
        · intro u hu
          by_cases h0 : a.1 = 0
          · rw [if_pos h0] at hu; exact .inr ⟨u, hu, rfl⟩
          · rw [if_neg h0] at hu
            rcases List.mem_cons.1 hu with rfl | hu
            · exact .inl rfl
            · exact .inr ⟨u, hu, rfl⟩
end Go.Proofs.Ytibjkjhpfmmjoaa.M

/- Which sizes and rows of terms make a series. Conditions: none. -/
namespace Go.Proofs.Ytibjkjhpfmmjoaa.M
/-- The sizes that a series may have. -/
def lev (d n : Int) : Bool := inR d 1 3 && (inR n 1 5 && (decide (d < 3) || decide (n ≤ 4)))
theorem lev_iff {d n : Int} : lev d n = true ↔ (1 ≤ d ∧ d ≤ 3) ∧ (1 ≤ n ∧ n ≤ 5) ∧ (d < 3 ∨ n ≤ 4) := by simp [lev, inR]
def isS (d n : Int) (l : Ts) : Bool := lev d n && isTs d.toNat n.toNat l
/-- No row and no word is greater than what a law lets in. -/
def bnd (l : Ts) : Bool := decide (l.length ≤ 1048576) && l.all fun t => decide (t.1.size ≤ 1048576)
theorem bnd_iff {l : Ts} : bnd l = true ↔ l.length ≤ 1048576 ∧ ∀ t ∈ l, t.1.size ≤ 1048576 := by simp [bnd]
end Go.Proofs.Ytibjkjhpfmmjoaa.M

namespace Go.Proofs.Ytibjkjhpfmmjoaa.M
set_option linter.unusedVariables false
set_option linter.unusedSimpArgs false

/-! ### rows -/
def stepI (v w : List UInt8) (c : UInt8) (k : Nat) (ways next : List Int) (i : Nat) : List Int :=
  let n := ways.getD i 0
  let next1 := if i < v.length ∧ c = v.getD i 0 then next.set (i + 1) (next.getD (i + 1) 0 + n) else next
  if i ≤ k ∧ k - i < w.length ∧ c = w.getD (k - i) 0 then next1.set i (next1.getD i 0 + n) else next1
def innerI (v w : List UInt8) (c : UInt8) (k : Nat) (ways : List Int) : Nat → List Int
  | 0 => List.replicate (v.length + 1) 0
  | i + 1 => stepI v w c k ways (innerI v w c k ways i) i
def rowI (v w u : List UInt8) : Nat → List Int
  | 0 => (List.replicate (v.length + 1) 0).set 0 1
  | k + 1 => innerI v w (u.getD k 0) k (rowI v w u k) (v.length + 1)
/-! ### the sum over a row stays -/
end Go.Proofs.Ytibjkjhpfmmjoaa.M

namespace Go.Proofs.Ytibjkjhpfmmjoaa.M
set_option linter.unusedVariables false
set_option linter.unusedSimpArgs false
/-! ### numbers of words -/
def valL (d : Nat) (l : List UInt8) : Nat := l.foldl (fun v c => v * d + (c.toNat - 48)) 0
/-- The number of words with fewer than k letters. -/
def ahead (d : Nat) : Nat → Nat
  | 0 => 0
  | k + 1 => ahead d k + d ^ k
def num (d : Nat) (s : ByteArray) : Nat := ahead d s.size + valL d (bl s)
/-- All words with fewer than k letters, in order. -/
def allU (d k : Nat) : List ByteArray := (List.range k).flatMap (wordsN d)
def allW (d n : Nat) : List ByteArray := allU d (n + 1)
theorem allU_zero (d : Nat) : allU d 0 = [] := rfl
theorem allU_succ (d k : Nat) : allU d (k + 1) = allU d k ++ wordsN d k := by
  unfold allU; rw [List.range_succ, List.flatMap_append]; simp
theorem allU_length (d k : Nat) : (allU d k).length = ahead d k := by
  induction k with
  | zero => rfl
  | succ k ih => rw [allU_succ, List.length_append, ih, wordsN_length, ahead]
theorem valL_snoc (d : Nat) (l : List UInt8) (c : UInt8) : valL d (l ++ [c]) = valL d l * d + (c.toNat - 48) := by
  unfold valL; rw [List.foldl_append]; rfl
theorem isWL_append (d : Nat) (a b : List UInt8) : isWL d (a ++ b) = (isWL d a && isWL d b) := by unfold isWL; rw [List.all_append]
theorem isWL_one {d : Nat} {c : UInt8} : isWL d [c] = true ↔ 48 ≤ c.toNat ∧ c.toNat < 48 + d := by simp [isWL]
theorem snoc_of {l : List UInt8} {n : Nat} (h : l.length = n + 1) : ∃ m c, l = m ++ [c] ∧ m.length = n := by
  rcases List.eq_nil_or_concat l with e | ⟨m, c, e⟩
  · rw [e] at h; cases h
  · refine ⟨m, c, by rw [e, List.concat_eq_append], ?_⟩
    rw [e, List.concat_eq_append, List.length_append] at h; simpa using h
theorem valL_lt {d : Nat} : ∀ {n : Nat} {l : List UInt8}, l.length = n → isWL d l = true → valL d l < d ^ n
  | 0, l, h, _ => by obtain rfl := List.eq_nil_of_length_eq_zero h; simp [valL]
  | n + 1, l, h, hw => by
    obtain ⟨m, c, rfl, hm⟩ := snoc_of h
    rw [isWL_append, Bool.and_eq_true, isWL_one] at hw
    have ih := valL_lt hm hw.1
    rw [valL_snoc, Nat.pow_succ]
    have h1 : valL d m * d + d ≤ d ^ n * d := by
      have : (valL d m + 1) * d ≤ d ^ n * d := Nat.mul_le_mul_right d ih
      rwa [Nat.add_mul, Nat.one_mul] at this
    omega
theorem flatMap_get {α β : Type} (g : α → List β) (m : Nat) (hg : ∀ a, (g a).length = m) : ∀ (l : List α) (i j : Nat), j < m → (l.flatMap g)[i * m + j]? = (l[i]?).bind fun a => (g a)[j]?
  | [], i, j, h => by simp
  | a :: l, 0, j, h => by
    rw [List.flatMap_cons, Nat.zero_mul, Nat.zero_add, List.getElem?_append_left (by rw [hg]; exact h)]; rfl
  | a :: l, i + 1, j, h => by
    rw [List.flatMap_cons, List.getElem?_append_right (by rw [hg, Nat.succ_mul]; omega), hg]
    have e : (i + 1) * m + j - m = i * m + j := by rw [Nat.succ_mul]; omega
    rw [e, flatMap_get g m hg l i j h]; simp
theorem bl_snoc {s : ByteArray} {m : List UInt8} {q : Nat} (h : bl s = m ++ [(48 + q).toUInt8]) : s = (⟨m.toArray⟩ : ByteArray) ++ letter q := by
  apply bl_ext; rw [bl_append, bl_letter, h]; rfl
theorem digit_of {c : UInt8} {d : Nat} (h : 48 ≤ c.toNat ∧ c.toNat < 48 + d) : c = (48 + (c.toNat - 48)).toUInt8 := by
  have e : 48 + (c.toNat - 48) = c.toNat := by omega
  rw [e]; apply UInt8.toNat_inj.1; simp
theorem wordsN_get {d : Nat} : ∀ {n : Nat} {s : ByteArray}, s.size = n → isWd d s = true → (wordsN d n)[valL d (bl s)]? = some s
  | 0, s, h, _ => by
    have e : bl s = [] := List.eq_nil_of_length_eq_zero (by rw [bl_len, h])
    have e2 : s = ⟨#[]⟩ := bl_ext (by rw [e]; rfl)
    subst e2; rfl
  | n + 1, s, h, hw => by
    obtain ⟨m, c, e, hm⟩ := snoc_of (l := bl s) (n := n) (by rw [bl_len, h])
    have hw' : isWL d (bl s) = true := hw
    rw [e, isWL_append, Bool.and_eq_true, isWL_one] at hw'
    have ih := wordsN_get (d := d) (n := n) (s := ⟨m.toArray⟩) (by rw [← bl_len]; exact hm) hw'.1
    have hq : c.toNat - 48 < d := by omega
    have hc := digit_of hw'.2
    rw [e, valL_snoc, wordsN, nextWords, flatMap_get _ d (by simp) _ _ _ hq]
    have ih' : (wordsN d n)[valL d m]? = some ⟨m.toArray⟩ := ih
    rw [ih']
    simp only [Option.bind_some]
    rw [List.getElem?_map, List.getElem?_range hq]
    simp only [Option.map_some]
    rw [bl_snoc (s := s) (m := m) (q := c.toNat - 48) (by rw [e]; congr 1; rw [← hc])]
theorem ahead_mono (d : Nat) {i j : Nat} (h : i ≤ j) : ahead d i ≤ ahead d j := by
  induction h with
  | refl => exact Nat.le_refl _
  | step _ ih => rw [ahead]; omega
theorem num_lt {d : Nat} {s : ByteArray} {k : Nat} (h : s.size < k) (hw : isWd d s = true) : num d s < ahead d k := by
  have h1 := valL_lt (d := d) (l := bl s) rfl hw
  rw [bl_len] at h1
  have h2 := ahead_mono d (i := s.size + 1) (j := k) h
  rw [ahead] at h2
  unfold num; omega
theorem allU_get {d : Nat} {s : ByteArray} (hw : isWd d s = true) : ∀ {k : Nat}, s.size < k → (allU d k)[num d s]? = some s
  | 0, h => by omega
  | k + 1, h => by
    rw [allU_succ]
    by_cases hk : s.size < k
    · rw [List.getElem?_append_left (by rw [allU_length]; exact num_lt hk hw)]; exact allU_get hw hk
    · obtain rfl : s.size = k := by omega
      rw [List.getElem?_append_right (by rw [allU_length]; unfold num; omega), allU_length]
      have e : num d s - ahead d s.size = valL d (bl s) := by unfold num; omega
      rw [e]; exact wordsN_get rfl hw
theorem wordsN_mem {d : Nat} (hd : d ≤ 9) : ∀ {n : Nat} {s : ByteArray}, s ∈ wordsN d n → s.size = n ∧ isWd d s = true
  | 0, s, h => by
    obtain rfl : s = ⟨#[]⟩ := by simpa [wordsN] using h
    exact ⟨rfl, rfl⟩
  | n + 1, s, h => by
    simp only [wordsN, nextWords, List.mem_flatMap, List.mem_map, List.mem_range] at h
    obtain ⟨t, ht, q, hq, rfl⟩ := h
    obtain ⟨h1, h2⟩ := wordsN_mem hd ht
    refine ⟨by rw [← bl_len, bl_append, List.length_append, bl_len, h1]; rfl, ?_⟩
    unfold isWd
    rw [bl_append, isWL_append, Bool.and_eq_true]
    refine ⟨h2, ?_⟩
    rw [bl_letter, isWL_one, letter_nat (by omega)]; omega
theorem allU_mem {d : Nat} (hd : d ≤ 9) : ∀ {k : Nat} {s : ByteArray}, s ∈ allU d k ↔ isWd d s = true ∧ s.size < k
  | 0, s => by simp [allU_zero]
  | k + 1, s => by
    constructor
    · intro h
      rw [allU_succ, List.mem_append] at h
      rcases h with h | h
      · have := (allU_mem hd).1 h; exact ⟨this.1, by omega⟩
      · have := wordsN_mem hd h; exact ⟨this.2, by omega⟩
    · rintro ⟨h1, h2⟩
      exact List.mem_of_getElem? (allU_get h1 h2)
theorem allW_mem {d n : Nat} (hd : d ≤ 9) {s : ByteArray} : s ∈ allW d n ↔ isWd d s = true ∧ s.size ≤ n := by
  unfold allW; rw [allU_mem hd]; constructor <;> rintro ⟨h1, h2⟩ <;> exact ⟨h1, by omega⟩
theorem allW_get {d n : Nat} {s : ByteArray} (hw : isWd d s = true) (h : s.size ≤ n) : (allW d n)[num d s]? = some s := allU_get hw (by omega)
theorem allW_length (d n : Nat) : (allW d n).length = ahead d (n + 1) := allU_length _ _
theorem num_lt' {d n : Nat} {s : ByteArray} (hw : isWd d s = true) (h : s.size ≤ n) : num d s < (allW d n).length := by
  rw [allW_length]; exact num_lt (by omega) hw
/-! ### all words ascend -/
theorem bless_cons_same (c : UInt8) (x y : List UInt8) : bless (c :: x) (c :: y) = bless x y := by simp [bless, Go.Op.bytesLess]
theorem bless_same (l : List UInt8) (x y : List UInt8) : bless (l ++ x) (l ++ y) = bless x y := by
  induction l with
  | nil => rfl
  | cons c l ih => rw [List.cons_append, List.cons_append, bless_cons_same, ih]
theorem bless_append : ∀ {a b : List UInt8} (x y : List UInt8), a.length = b.length → bless a b = true → bless (a ++ x) (b ++ y) = true
  | [], [], _, _, _, h => by simp [bless, Go.Op.bytesLess] at h
  | [], _ :: _, _, _, h, _ => by cases h
  | _ :: _, [], _, _, h, _ => by cases h
  | a :: p, b :: q, x, y, hl, h => by
    simp only [bless, List.cons_append, Go.Op.bytesLess, Bool.or_eq_true, Bool.and_eq_true, decide_eq_true_eq, beq_iff_eq] at h ⊢
    rcases h with h | ⟨rfl, h⟩
    · exact .inl h
    · exact .inr ⟨rfl, bless_append x y (by simpa using hl) h⟩
theorem bless_digit {i j : Nat} (h : i < j) (hj : j < 10) : bless [(48 + i).toUInt8] [(48 + j).toUInt8] = true := by
  have : (48 + i).toUInt8 < (48 + j).toUInt8 := by rw [UInt8.lt_iff_toNat_lt, letter_nat (by omega), letter_nat hj]; omega
  show (decide ((48 + i).toUInt8 < (48 + j).toUInt8) || _) = true
  rw [decide_eq_true this]; rfl
theorem wordsN_srt {d : Nat} (hd : d ≤ 9) : ∀ n, (wordsN d n).Pairwise fun a b => bef a b = true
  | 0 => by simp [wordsN]
  | n + 1 => by
    rw [wordsN, nextWords, List.pairwise_flatMap]
    constructor
    · intro s hs
      rw [List.pairwise_map]
      refine (List.pairwise_lt_range).imp_of_mem ?_
      intro i j hi hj hij
      rw [List.mem_range] at hi hj
      unfold bef befL
      rw [bl_append, bl_append, if_pos (by simp [bl_letter]), bless_same]
      exact bless_digit hij (by omega)
    · refine (wordsN_srt hd n).imp_of_mem ?_
      intro s t hs ht hst x hx y hy
      obtain ⟨i, hi, rfl⟩ := List.mem_map.1 hx
      obtain ⟨j, hj, rfl⟩ := List.mem_map.1 hy
      have h1 : (bl s).length = (bl t).length := by rw [bl_len, bl_len, (wordsN_mem hd hs).1, (wordsN_mem hd ht).1]
      unfold bef befL at hst ⊢
      rw [if_pos h1] at hst
      rw [bl_append, bl_append, if_pos (by simp [bl_letter, h1])]
      exact bless_append _ _ h1 hst
theorem allU_srt {d : Nat} (hd : d ≤ 9) : ∀ k, (allU d k).Pairwise fun a b => bef a b = true
  | 0 => by simp [allU_zero]
  | k + 1 => by
    rw [allU_succ, List.pairwise_append]
    refine ⟨allU_srt hd k, wordsN_srt hd k, fun a ha b hb => ?_⟩
    have h1 := ((allU_mem hd).1 ha).2
    have h2 := (wordsN_mem hd hb).1
    unfold bef befL
    rw [if_neg (by rw [bl_len, bl_len]; omega), bl_len, bl_len]
    simp; omega
theorem allW_srt {d : Nat} (hd : d ≤ 9) (n : Nat) : (allW d n).Pairwise fun a b => bef a b = true := allU_srt hd _
/-! ### tables -/
def good (f : ByteArray → Fr) : Prop := ∀ w, fr (f w) = true
/-- The terms of a table. -/
def tabT (d n : Nat) (f : ByteArray → Fr) : Ts := (allW d n).filterMap fun w => if (f w).1 = 0 then none else some (w, f w)
theorem tabT_mem {d n : Nat} (hd : d ≤ 9) {f : ByteArray → Fr} {t : Tm} : t ∈ tabT d n f ↔ isWd d t.1 = true ∧ t.1.size ≤ n ∧ t.2 = f t.1 ∧ t.2.1 ≠ 0 := by
  unfold tabT
  rw [List.mem_filterMap]
  constructor
  · rintro ⟨w, hw, h⟩
    obtain ⟨h1, h2⟩ := (allW_mem hd).1 hw
    split at h
    · cases h
    · rename_i h0
      injection h with h
      subst h
      exact ⟨h1, h2, rfl, h0⟩
  · rintro ⟨h1, h2, h3, h4⟩
    refine ⟨t.1, (allW_mem hd).2 ⟨h1, h2⟩, ?_⟩
    rw [← h3, if_neg h4]
theorem tabT_is {d n : Nat} (hd : d ≤ 9) {f : ByteArray → Fr} (hf : good f) : isTs d n (tabT d n f) = true := by
  rw [isTs_iff]
  constructor
  · intro t ht
    obtain ⟨h1, h2, h3, h4⟩ := (tabT_mem hd).1 ht
    exact isTm_mk h1 h2 (by rw [h3]; exact hf _) h4
  · unfold Srt tabT
    rw [List.pairwise_filterMap]
    refine (allW_srt hd n).imp ?_
    intro a b hab t ht u hu
    split at ht
    · cases ht
    · split at hu
      · cases hu
      · injection ht with ht; injection hu with hu
        subst ht; subst hu; exact hab
theorem tabT_co {d n : Nat} (hd : d ≤ 9) {f : ByteArray → Fr} (hf : good f) {w : ByteArray} (hw : isWd d w = true) (hn : w.size ≤ n) : co (tabT d n f) w = f w := by
  by_cases h0 : (f w).1 = 0
  · rcases co_zero_or (l := tabT d n f) w with e | ⟨t, ht, e, k⟩
    · rw [e, fr_num0 (hf w) h0]
    · obtain ⟨_, _, h3, h4⟩ := (tabT_mem hd).1 ht
      rw [e] at h3; rw [h3] at h4; exact absurd h0 h4
  · exact co_mem (t := (w, f w)) (isTs_iff.1 (tabT_is hd hf)).2 ((tabT_mem hd).2 ⟨hw, hn, rfl, h0⟩)
theorem co_off {d n : Nat} {l : Ts} (h : isTs d n l = true) {w : ByteArray} (hw : ¬ (isWd d w = true ∧ w.size ≤ n)) : co l w = (0, 1) :=
  co_none fun t ht e => hw (by have := isTm_fr ((isTs_iff.1 h).1 t ht); rw [e] at this; exact ⟨this.2.2.1, this.2.2.2⟩)
/-- A row of terms is the row of the table with its coefficients. -/
theorem eq_tabT {d n : Nat} (hd : d ≤ 9) {l : Ts} {f : ByteArray → Fr} (h : isTs d n l = true) (hf : good f) (hc : ∀ w, isWd d w = true → w.size ≤ n → co l w = f w) : l = tabT d n f :=
  ts_ext h (tabT_is hd hf) fun w => by
    by_cases hw : isWd d w = true ∧ w.size ≤ n
    · rw [hc w hw.1 hw.2, tabT_co hd hf hw.1 hw.2]
    · rw [co_off h hw, co_off (tabT_is hd hf) hw]
theorem good_co {d n : Nat} {l : Ts} (h : isTs d n l = true) : good (co l) := co_fr h
theorem eq_tabT_co {d n : Nat} (hd : d ≤ 9) {l : Ts} (h : isTs d n l = true) : l = tabT d n (co l) := eq_tabT hd h (good_co h) fun _ _ _ => rfl
theorem tabT_length_le (d n : Nat) (f : ByteArray → Fr) : (tabT d n f).length ≤ ahead d (n + 1) := by
  unfold tabT; rw [← allW_length]; exact List.length_filterMap_le _ _
theorem ts_length_le {d n : Nat} (hd : d ≤ 9) {l : Ts} (h : isTs d n l = true) : l.length ≤ ahead d (n + 1) := by
  rw [eq_tabT_co hd h]; exact tabT_length_le _ _ _
theorem good_upd {f : ByteArray → Fr} (hf : good f) {w : ByteArray} {a : Fr} (ha : fr a = true) : good (upd f w a) := fun v => by
  unfold upd; split
  · exact ha
  · exact hf v
theorem good_zero : good fun _ => (0, 1) := fun _ => fr_zero
/-! ### adding to a table, putting into a row: the same -/
/-- What 'check' leaves of a sum or product. -/
def orZ (o : Option Fr) : Fr := o.getD (0, 1)
theorem orZ_fr {o : Option Fr} (h : ∀ c, o = some c → fr c = true) : fr (orZ o) = true := by
  cases o with
  | none => exact fr_zero
  | some c => exact h c rfl
/-- A table and its mark: something has not fitted. -/
abbrev Tb := (ByteArray → Fr) × Bool
/-- One addition at a word; none: what is added has not fitted. -/
def addT (F : Tb) (u : ByteArray × Option Fr) : Tb := (upd F.1 u.1 (orZ (add (F.1 u.1) (orZ u.2))), F.2 || u.2.isNone || (add (F.1 u.1) (orZ u.2)).isNone)
def addsT (F : Tb) (U : List (ByteArray × Option Fr)) : Tb := U.foldl addT F
def putS (l : Ts) (u : ByteArray × Option Fr) : Option Ts := u.2.bind fun a => put l u.1 a
def putsS (l : Ts) (U : List (ByteArray × Option Fr)) : Option Ts := U.foldlM putS l
theorem addT_good {F : Tb} (h : good F.1) {u : ByteArray × Option Fr} (hu : ∀ a, u.2 = some a → fr a = true) : good (addT F u).1 :=
  good_upd h (orZ_fr fun c hc => add_fr hc)
theorem addsT_good : ∀ {U : List (ByteArray × Option Fr)} {F : Tb}, good F.1 → (∀ u ∈ U, ∀ a, u.2 = some a → fr a = true) → good (addsT F U).1
  | [], F, h, _ => h
  | u :: U, F, h, hU => addsT_good (U := U) (addT_good h (hU u List.mem_cons_self)) fun v hv => hU v (List.mem_cons_of_mem _ hv)
theorem addsT_bad : ∀ {U : List (ByteArray × Option Fr)} {F : Tb}, F.2 = true → (addsT F U).2 = true
  | [], F, h => h
  | u :: U, F, h => addsT_bad (U := U) (F := addT F u) (by simp [addT, h])
/-- Row and table go together. -/
theorem puts_adds {d n : Nat} : ∀ {U : List (ByteArray × Option Fr)} {l : Ts} {f : ByteArray → Fr}, isTs d n l = true → (∀ w, co l w = f w) → (∀ u ∈ U, isWd d u.1 = true ∧ u.1.size ≤ n ∧ ∀ a, u.2 = some a → fr a = true) →
    (putsS l U = none ∧ (addsT (f, false) U).2 = true) ∨ ∃ l', putsS l U = some l' ∧ (addsT (f, false) U).2 = false ∧ isTs d n l' = true ∧ ∀ w, co l' w = (addsT (f, false) U).1 w
  | [], l, f, h, hc, _ => .inr ⟨l, rfl, rfl, h, hc⟩
  | (w, o) :: U, l, f, h, hc, hU => by
    have hu := hU (w, o) List.mem_cons_self
    have hU' : ∀ u ∈ U, isWd d u.1 = true ∧ u.1.size ≤ n ∧ ∀ a, u.2 = some a → fr a = true := fun u hu => hU u (List.mem_cons_of_mem _ hu)
    cases o with
    | none =>
      left
      refine ⟨rfl, ?_⟩
      show (addsT (addT (f, false) (w, none)) U).2 = true
      exact addsT_bad (by simp [addT])
    | some a =>
      have ha := hu.2.2 a rfl
      rcases put_co h hu.1 hu.2.1 ha with ⟨e1, e2⟩ | ⟨l', s, e1, e2, e3, e4, _⟩
      · left
        constructor
        · show (List.foldlM putS l ((w, some a) :: U)) = none
          rw [List.foldlM_cons]; simp [putS, e1]
        · show (addsT (addT (f, false) (w, some a)) U).2 = true
          refine addsT_bad ?_
          simp only [addT, orZ, Option.getD_some]
          rw [hc] at e2
          simp [e2]
      · rw [hc] at e2
        have eF : addT (f, false) (w, some a) = (upd f w s, false) := by
          simp only [addT, orZ, Option.getD_some, e2]; rfl
        have ep : putsS l ((w, some a) :: U) = putsS l' U := by
          show (List.foldlM putS l ((w, some a) :: U)) = _
          rw [List.foldlM_cons]; simp [putS, e1]; rfl
        have ea : addsT (f, false) ((w, some a) :: U) = addsT (upd f w s, false) U := by
          show addsT (addT (f, false) (w, some a)) U = _
          rw [eF]
        rw [ep, ea]
        exact puts_adds e3 (fun v => by rw [e4]; unfold upd; split <;> simp [hc]) hU'
theorem ahead_le {d k : Nat} (hd : d ≤ 3) (hk : k ≤ 8) : ahead d k ≤ 10000 := by
  have : ∀ j, ahead d j ≤ ahead 3 j := fun j => by
    induction j with
    | zero => exact Nat.le_refl _
    | succ j ih => rw [ahead, ahead]; exact Nat.add_le_add ih (Nat.pow_le_pow_left hd j)
  exact Nat.le_trans (this k) (Nat.le_trans (ahead_mono 3 hk) (by decide))
end Go.Proofs.Ytibjkjhpfmmjoaa.M
namespace Go.Proofs.Ytibjkjhpfmmjoaa.M
set_option linter.unusedVariables false
theorem allW_inj {d n : Nat} (hd : d ≤ 9) {i j : Nat} {s : ByteArray} (hi : (allW d n)[i]? = some s) (hj : (allW d n)[j]? = some s) : i = j := by
  have h := allW_srt hd n
  rw [List.pairwise_iff_getElem] at h
  obtain ⟨hi1, hi2⟩ := List.getElem?_eq_some_iff.1 hi
  obtain ⟨hj1, hj2⟩ := List.getElem?_eq_some_iff.1 hj
  rcases Nat.lt_trichotomy i j with h1 | h1 | h1
  · have := h i j hi1 hj1 h1; rw [hi2, hj2, bef_irrefl] at this; cases this
  · exact h1
  · have := h j i hj1 hi1 h1; rw [hi2, hj2, bef_irrefl] at this; cases this
/-- What is returned: letters, level, terms, code. -/
abbrev Rs := Int × Int × Ts × Int
def noS (c : Int) : Rs := (0, 0, [], c)
def toldR (d n : Nat) (F : Tb) : Rs := if F.2 = true then noS 3 else ((d : Int), (n : Int), tabT d n F.1, 0)
theorem num_at {d n : Nat} (hd : d ≤ 9) {k : Nat} {s : ByteArray} (hs : (allW d n)[k]? = some s) : isWd d s = true ∧ s.size ≤ n ∧ num d s = k := by
  obtain ⟨h1, h2⟩ := (allW_mem hd).1 (List.mem_of_getElem? hs)
  exact ⟨h1, h2, allW_inj hd (allW_get h1 h2) hs⟩
/-- What is returned: a fraction and a code. -/
abbrev Rf := Int × Int × Int
theorem isS_l {d n : Int} {l : Ts} (h : isS d n l = true) : lev d n = true := by rw [isS, Bool.and_eq_true] at h; exact h.1
theorem isS_t {d n : Int} {l : Ts} (h : isS d n l = true) : isTs d.toNat n.toNat l = true := by rw [isS, Bool.and_eq_true] at h; exact h.2
def resQ (d n : Int) : Option Ts → Int × Int × Ts × Bool
  | none => (0, 0, [], false)
  | some y => (d, n, y, true)
theorem isTs_small {d n : Nat} {l : Ts} (h : isTs d n l = true) : ∀ t ∈ l, small t.2 := fun t ht => fr_small (isTm_fr ((isTs_iff.1 h).1 t ht)).1
theorem isTs_bnd {d n : Nat} (hd : d ≤ 3) (hn : n ≤ 5) {l : Ts} (h : isTs d n l = true) : bnd l = true := by
  have h1 := ts_length_le (by omega) h
  have h2 := ahead_le hd (k := n + 1) (by omega)
  refine bnd_iff.2 ⟨by omega, fun t ht => ?_⟩
  have := (isTm_fr ((isTs_iff.1 h).1 t ht)).2.2.2
  omega
end Go.Proofs.Ytibjkjhpfmmjoaa.M
namespace Go.Proofs.Ytibjkjhpfmmjoaa.M
set_option linter.unusedVariables false
/-- Row and table go together. -/
def Rel (d n : Nat) (o : Option Ts) (F : Tb) : Prop := (o = none ∧ F.2 = true) ∨ ∃ l, o = some l ∧ F.2 = false ∧ isTs d n l = true ∧ ∀ w, isWd d w = true → w.size ≤ n → co l w = F.1 w
def resO (d n : Int) : Option Ts → Rs
  | none => noS 3
  | some l => (d, n, l, 0)
theorem Rel.told {d n : Nat} (hd : d ≤ 9) {o : Option Ts} {F : Tb} (hF : good F.1) (h : Rel d n o F) : toldR d n F = resO d n o := by
  unfold toldR
  rcases h with ⟨rfl, h⟩ | ⟨l, rfl, h1, h2, h3⟩
  · rw [if_pos h]; rfl
  · rw [if_neg (by rw [h1]; decide), ← eq_tabT hd h2 hF h3]; rfl
/-! multiples -/
end Go.Proofs.Ytibjkjhpfmmjoaa.M
namespace Go.Proofs.Ytibjkjhpfmmjoaa.M
end Go.Proofs.Ytibjkjhpfmmjoaa.M
namespace Go.Proofs.Ytibjkjhpfmmjoaa.M
set_option linter.unusedVariables false
/-! ### cuts of words -/
theorem bl_wl (s : ByteArray) (k : Nat) : bl (s.extract 0 k) = (bl s).take k := by
  unfold bl
  simp [ByteArray.data_extract, Array.toList_extract]
theorem bl_wr (s : ByteArray) (k : Nat) : bl (s.extract k s.size) = (bl s).drop k := Lib.extract_to_end s k
theorem wl_size {s : ByteArray} {k : Nat} (h : k ≤ s.size) : (s.extract 0 k).size = k := by rw [ByteArray.size_extract]; omega
theorem wr_size (s : ByteArray) (k : Nat) : (s.extract k s.size).size = s.size - k := by rw [ByteArray.size_extract]; omega
theorem wl_wd {d : Nat} {s : ByteArray} (h : isWd d s = true) (k : Nat) : isWd d (s.extract 0 k) = true := by
  unfold isWd isWL at *
  rw [bl_wl]
  rw [List.all_eq_true] at *
  exact fun x hx => h x (List.mem_of_mem_take hx)
theorem wr_wd {d : Nat} {s : ByteArray} (h : isWd d s = true) (k : Nat) : isWd d (s.extract k s.size) = true := by
  unfold isWd isWL at *
  rw [bl_wr]
  rw [List.all_eq_true] at *
  exact fun x hx => h x (List.mem_of_mem_drop hx)
/-! ### what a product adds -/
abbrev Us := List (ByteArray × Option Fr)
/-- What the first k cuts of a word add. -/
def cutU (f g : ByteArray → Fr) (s : ByteArray) (k : Nat) : Us := (List.range k).filterMap fun i => if (f (s.extract 0 i)).1 ≠ 0 ∧ (g (s.extract i s.size)).1 ≠ 0 then some (s, mul (f (s.extract 0 i)) (g (s.extract i s.size))) else none
theorem cutU_succ (f g : ByteArray → Fr) (s : ByteArray) (k : Nat) : cutU f g s (k + 1) = cutU f g s k ++ (if (f (s.extract 0 k)).1 ≠ 0 ∧ (g (s.extract k s.size)).1 ≠ 0 then [(s, mul (f (s.extract 0 k)) (g (s.extract k s.size)))] else []) := by
  unfold cutU
  rw [List.range_succ, List.filterMap_append]
  congr 1
  by_cases h : (f (s.extract 0 k)).1 ≠ 0 ∧ (g (s.extract k s.size)).1 ≠ 0
  · rw [if_pos h, List.filterMap_cons, if_pos h]; rfl
  · rw [if_neg h, List.filterMap_cons, if_neg h]; rfl
theorem cutU_skip {f g : ByteArray → Fr} {s : ByteArray} {k : Nat} (h : (f (s.extract 0 k)).1 = 0 ∨ (g (s.extract k s.size)).1 = 0) : cutU f g s (k + 1) = cutU f g s k := by
  rw [cutU_succ, if_neg (by rcases h with h | h <;> simp [h]), List.append_nil]
theorem cutU_take {f g : ByteArray → Fr} {s : ByteArray} {k : Nat} (h1 : (f (s.extract 0 k)).1 ≠ 0) (h2 : (g (s.extract k s.size)).1 ≠ 0) : cutU f g s (k + 1) = cutU f g s k ++ [(s, mul (f (s.extract 0 k)) (g (s.extract k s.size)))] := by
  rw [cutU_succ, if_pos ⟨h1, h2⟩]
def wordU (f g : ByteArray → Fr) (s : ByteArray) : Us := cutU f g s (s.size + 1)
def timesU (f g : ByteArray → Fr) (ws : List ByteArray) : Us := ws.flatMap (wordU f g)
theorem timesU_snoc (f g : ByteArray → Fr) (ws : List ByteArray) (s : ByteArray) : timesU f g (ws ++ [s]) = timesU f g ws ++ wordU f g s := by
  unfold timesU; rw [List.flatMap_append, List.flatMap_cons, List.flatMap_nil, List.append_nil]
theorem cutU_ok {f g : ByteArray → Fr} {s : ByteArray} {k : Nat} : ∀ u ∈ cutU f g s k, u.1 = s ∧ ∀ a, u.2 = some a → fr a = true := by
  intro u hu
  unfold cutU at hu
  obtain ⟨i, _, h⟩ := List.mem_filterMap.1 hu
  split at h
  · injection h with h
    subst h
    exact ⟨rfl, fun a ha => mul_fr ha⟩
  · cases h
theorem timesU_ok {f g : ByteArray → Fr} {ws : List ByteArray} : ∀ u ∈ timesU f g ws, u.1 ∈ ws ∧ ∀ a, u.2 = some a → fr a = true := by
  intro u hu
  obtain ⟨s, hs, h⟩ := List.mem_flatMap.1 hu
  obtain ⟨h1, h2⟩ := cutU_ok u h
  exact ⟨h1 ▸ hs, h2⟩
theorem timesU_all {d n : Nat} (hd : d ≤ 9) {f g : ByteArray → Fr} : ∀ u ∈ timesU f g (allW d n), isWd d u.1 = true ∧ u.1.size ≤ n ∧ ∀ a, u.2 = some a → fr a = true := by
  intro u hu
  obtain ⟨h1, h2⟩ := timesU_ok u hu
  obtain ⟨h3, h4⟩ := (allW_mem hd).1 h1
  exact ⟨h3, h4, h2⟩
/-- The functions agree on the words of a series. -/
def onW (d n : Nat) (f g : ByteArray → Fr) : Prop := ∀ w, isWd d w = true → w.size ≤ n → f w = g w
theorem cutU_congr {d n : Nat} {f f' g g' : ByteArray → Fr} (hf : onW d n f f') (hg : onW d n g g') {s : ByteArray} (hs : isWd d s = true) (hn : s.size ≤ n) : ∀ k, k ≤ s.size + 1 → cutU f g s k = cutU f' g' s k
  | 0, _ => rfl
  | k + 1, h => by
    rw [cutU_succ, cutU_succ, cutU_congr hf hg hs hn k (by omega), hf _ (wl_wd hs k) (by rw [wl_size (by omega)]; omega), hg _ (wr_wd hs k) (by rw [wr_size]; omega)]
theorem flatMap_same {α β : Type} {g h : α → List β} : ∀ {l : List α}, (∀ a ∈ l, g a = h a) → l.flatMap g = l.flatMap h
  | [], _ => rfl
  | a :: l, e => by rw [List.flatMap_cons, List.flatMap_cons, e a List.mem_cons_self, flatMap_same fun b hb => e b (List.mem_cons_of_mem _ hb)]
theorem timesU_congr {d n : Nat} (hd : d ≤ 9) {f f' g g' : ByteArray → Fr} (hf : onW d n f f') (hg : onW d n g g') : timesU f g (allW d n) = timesU f' g' (allW d n) :=
  flatMap_same fun s hs => by
    obtain ⟨h1, h2⟩ := (allW_mem hd).1 hs
    exact cutU_congr hf hg h1 h2 _ (Nat.le_refl _)
/-! ### rows and tables -/
theorem isTs_nil (d n : Nat) : isTs d n [] = true := isTs_iff.2 ⟨fun _ h => (by cases h), List.Pairwise.nil⟩
theorem rel_use {d n : Nat} {l : Ts} {F : Tb} (h : Rel d n (some l) F) : F.2 = false ∧ isTs d n l = true ∧ onW d n (co l) F.1 := by
  rcases h with ⟨h, _⟩ | ⟨l', h, h1, h2, h3⟩
  · cases h
  · injection h with h
    subst h
    exact ⟨h1, h2, h3⟩
theorem rel_bad {d n : Nat} {F : Tb} (h : Rel d n none F) : F.2 = true := by
  rcases h with ⟨_, h⟩ | ⟨l', h, _⟩
  · exact h
  · cases h
theorem rel_no {d n : Nat} {F : Tb} (h : F.2 = true) : Rel d n none F := .inl ⟨rfl, h⟩
theorem puts_rel {d n : Nat} {l : Ts} {f : ByteArray → Fr} (hl : isTs d n l = true) {U : Us} (hf : ∀ w, co l w = f w) (hU : ∀ u ∈ U, isWd d u.1 = true ∧ u.1.size ≤ n ∧ ∀ a, u.2 = some a → fr a = true) : Rel d n (putsS l U) (addsT (f, false) U) := by
  rcases puts_adds hl hf hU with ⟨h1, h2⟩ | ⟨l', h1, h2, h3, h4⟩
  · exact .inl ⟨h1, h2⟩
  · exact .inr ⟨l', h1, h2, h3, fun w _ _ => h4 w⟩
def two (f : Ts → Ts → Option Ts) (o1 o2 : Option Ts) : Option Ts := o1.bind fun x => o2.bind fun y => f x y
/-- Products of tables, and of rows. -/
def timesT (d n : Nat) (F G : Tb) : Tb := addsT ((fun _ => (0, 1)), F.2 || G.2) (timesU F.1 G.1 (allW d n))
def mulS (d n : Nat) (x y : Ts) : Option Ts := putsS [] (timesU (co x) (co y) (allW d n))
theorem timesT_good {d n : Nat} {F G : Tb} : good (timesT d n F G).1 := addsT_good good_zero fun u hu => (timesU_ok u hu).2
theorem mul_rel {d n : Nat} (hd : d ≤ 9) (x y : Ts) : Rel d n (mulS d n x y) (addsT ((fun _ => (0, 1)), false) (timesU (co x) (co y) (allW d n))) :=
  puts_rel (isTs_nil d n) (fun w => co_nil w) (timesU_all hd)
theorem times_relT {d n : Nat} (hd : d ≤ 9) {o1 o2 : Option Ts} {F G : Tb} (h1 : Rel d n o1 F) (h2 : Rel d n o2 G) : Rel d n (two (mulS d n) o1 o2) (timesT d n F G) := by
  unfold timesT
  cases o1 with
  | none => exact rel_no (by rw [(rel_bad h1)]; exact addsT_bad rfl)
  | some x =>
    cases o2 with
    | none => exact rel_no (by rw [(rel_bad h2), Bool.or_true]; exact addsT_bad rfl)
    | some y =>
      obtain ⟨a1, a2, a3⟩ := (rel_use h1)
      obtain ⟨b1, b2, b3⟩ := (rel_use h2)
      rw [a1, b1, ← timesU_congr hd a3 b3]
      exact mul_rel hd x y
theorem mul_ts {d n : Nat} (hd : d ≤ 9) {x y z : Ts} (h : mulS d n x y = some z) : isTs d n z = true := by
  have := mul_rel (n := n) hd x y
  rw [h] at this
  exact (rel_use this).2.1
/-! ### a sum that is made at a word behind all others -/
end Go.Proofs.Ytibjkjhpfmmjoaa.M
namespace Go.Proofs.Ytibjkjhpfmmjoaa.M
set_option linter.unusedVariables false
/-! ### the numbers of the exponential, the logarithm, the inverse -/
end Go.Proofs.Ytibjkjhpfmmjoaa.M
namespace Go.Proofs.Ytibjkjhpfmmjoaa.M
set_option linter.unusedVariables false
end Go.Proofs.Ytibjkjhpfmmjoaa.M

namespace Go.Proofs.Ytibjkjhpfmmjoaa.M
set_option linter.unusedVariables false
/-! ### sums at one word -/
/-! ### a fraction times a whole number -/
theorem sgd_scale {p q g : Int} (hg : 0 < g) : sgd (p * g) (q * g) = sgd p q * g := by
  have h1 : (Int.gcd (p * g) (q * g) : Int) = (Int.gcd p q : Int) * g := by
    rw [Int.gcd_mul_right, Int.natCast_mul]
    congr 1
    omega
  unfold sgd
  rw [h1]
  by_cases h : q < 0
  · rw [if_pos h, if_pos (Int.mul_neg_of_neg_of_pos h hg), Int.neg_mul]
  · rw [if_neg h, if_neg (by have := Int.mul_nonneg (a := q) (b := g) (by omega) (by omega); omega)]
theorem frac_scale {p q g : Int} (hg : 0 < g) : frac (p * g) (q * g) = frac p q := by
  have h1 : rnum (p * g) (q * g) = rnum p q := by unfold rnum; rw [sgd_scale hg, Int.mul_tdiv_mul_of_pos_left _ _ hg]
  have h2 : rden (p * g) (q * g) = rden p q := by unfold rden; rw [sgd_scale hg, Int.mul_tdiv_mul_of_pos_left _ _ hg]
  unfold frac okN
  rw [h1, h2]
  by_cases h : q = 0
  · subst h; simp
  · have : q * g ≠ 0 := Int.mul_ne_zero h (by omega)
    simp [h, this]
end Go.Proofs.Ytibjkjhpfmmjoaa.M
namespace Go.Proofs.Ytibjkjhpfmmjoaa.M
set_option linter.unusedVariables false
end Go.Proofs.Ytibjkjhpfmmjoaa.M
namespace Go.Proofs.Ytibjkjhpfmmjoaa.M
set_option linter.unusedVariables false
end Go.Proofs.Ytibjkjhpfmmjoaa.M

namespace Go.Proofs.Ytibjkjhpfmmjoaa.M
set_option linter.unusedVariables false
set_option linter.unusedSimpArgs false
/-- The value of a fraction. -/
def rv (a : Fr) : Rat := (a.1 : Rat) / (a.2 : Rat)
theorem rq_ne {b : Int} (h : b ≠ 0) : (b : Rat) ≠ 0 := by exact_mod_cast h
theorem rv_zero : rv (0, 1) = 0 := by unfold rv; simp [Rat.div_def]
theorem frac_rv {a b : Int} {c : Fr} (h : frac a b = some c) : rv c * (b : Rat) = (a : Rat) := by
  unfold frac at h
  split at h
  · rename_i hh
    injection h with h
    subst h
    have hs := sgd_ne (a := a) hh.1
    have ha : sgd a b ∣ a := by
      unfold sgd; split
      · exact (Int.neg_dvd).2 (Int.gcd_dvd_left ..)
      · exact Int.gcd_dvd_left ..
    have hb : sgd a b ∣ b := by
      unfold sgd; split
      · exact (Int.neg_dvd).2 (Int.gcd_dvd_right ..)
      · exact Int.gcd_dvd_right ..
    have hy0 := hh.1
    unfold rv rnum rden
    generalize sgd a b = s at hs ha hb
    obtain ⟨x, rfl⟩ := ha
    obtain ⟨y, rfl⟩ := hb
    show ((s * x).tdiv s : Rat) / ((s * y).tdiv s : Rat) * ((s * y : Int) : Rat) = ((s * x : Int) : Rat)
    rw [Int.mul_tdiv_cancel_left _ hs, Int.mul_tdiv_cancel_left _ hs]
    have hy : y ≠ 0 := fun e => hy0 (by rw [e, Int.mul_zero])
    have h1 := rq_ne hy
    push_cast
    grind
  · cases h
theorem fr_dne {a : Fr} (h : fr a = true) : (a.2 : Rat) ≠ 0 := rq_ne (by have := fr_den h; omega)
theorem frac_of {a b : Int} {c : Fr} (hc : fr c = true) (hb : b ≠ 0) (h : rv c * (b : Rat) = (a : Rat)) : frac a b = some c := by
  have hd := fr_dne hc
  have h2 := fr_den hc
  have e : c.1 * b = a * c.2 := by
    have : ((c.1 * b : Int) : Rat) = ((a * c.2 : Int) : Rat) := by
      push_cast
      unfold rv at h
      grind
    exact_mod_cast this
  have hsf : frac c.1 c.2 = some c := frac_self hc
  rw [← frac_scale (p := a) (q := b) (g := c.2) (by omega), ← e]
  by_cases hp : 0 < b
  · rw [Int.mul_comm b c.2, frac_scale hp]; exact hsf
  · have h3 : c.1 * b = -c.1 * -b := by rw [Int.neg_mul_neg]
    have h4 : b * c.2 = -c.2 * -b := by rw [Int.neg_mul_neg, Int.mul_comm]
    rw [h3, h4, frac_scale (by omega)]
    have h5 : ((Int.gcd c.1 c.2 : Nat) : Int) = 1 := by have := (isFr_iff _ _).1 hc; omega
    have e1 : sgd (-c.1) (-c.2) = -1 := by unfold sgd; rw [if_pos (by omega), Int.neg_gcd, Int.gcd_neg, h5]
    have e2 : rnum (-c.1) (-c.2) = c.1 := by unfold rnum; rw [e1, Int.tdiv_neg, Int.tdiv_one, Int.neg_neg]
    have e3 : rden (-c.1) (-c.2) = c.2 := by unfold rden; rw [e1, Int.tdiv_neg, Int.tdiv_one, Int.neg_neg]
    rw [frac_ok (by omega) (by unfold okN; rw [e2, e3]; exact hc), e2, e3]
theorem rv_inj {a b : Fr} (ha : fr a = true) (hb : fr b = true) (h : rv a = rv b) : a = b := by
  have h1 : frac a.1 a.2 = some a := frac_self ha
  have h2 : frac a.1 a.2 = some b := frac_of hb (by have := fr_den ha; omega) (by
    rw [← h]
    have := fr_dne ha
    unfold rv
    grind)
  exact Option.some.inj (h1.symm.trans h2)
theorem add_rv {a b c : Fr} (ha : fr a = true) (hb : fr b = true) (h : add a b = some c) : rv c = rv a + rv b := by
  have h1 := frac_rv h
  have h2 := fr_dne ha
  have h3 := fr_dne hb
  push_cast at h1
  unfold rv at *
  grind
theorem mul_rv {a b c : Fr} (ha : fr a = true) (hb : fr b = true) (h : mul a b = some c) : rv c = rv a * rv b := by
  have h1 := frac_rv h
  have h2 := fr_dne ha
  have h3 := fr_dne hb
  push_cast at h1
  unfold rv at *
  grind
theorem rv_num {a : Fr} (h : fr a = true) : rv a = 0 ↔ a.1 = 0 := by
  constructor
  · intro e
    have := rv_inj h fr_zero (e.trans rv_zero.symm)
    rw [this]
  · intro e
    rw [fr_num0 h e, rv_zero]
/-! ### sums -/
def qs {α : Type} (f : α → Rat) : List α → Rat
  | [] => 0
  | a :: l => f a + qs f l
theorem qs_append {α : Type} (f : α → Rat) : ∀ l m : List α, qs f (l ++ m) = qs f l + qs f m
  | [], m => by show qs f m = 0 + qs f m; grind
  | a :: l, m => by show f a + qs f (l ++ m) = f a + qs f l + qs f m; rw [qs_append f l m]; grind
theorem qs_congr {α : Type} {f g : α → Rat} : ∀ {l : List α}, (∀ a ∈ l, f a = g a) → qs f l = qs g l
  | [], _ => rfl
  | a :: l, h => by
    show f a + qs f l = g a + qs g l
    rw [h a List.mem_cons_self, qs_congr fun b hb => h b (List.mem_cons_of_mem _ hb)]
theorem qs_zero {α : Type} {f : α → Rat} {l : List α} (h : ∀ a ∈ l, f a = 0) : qs f l = 0 := by
  rw [qs_congr (g := fun _ => 0) h]
  clear h
  induction l with
  | nil => rfl
  | cons a l ih => show (0 : Rat) + qs (fun _ => 0) l = 0; rw [ih]; grind
theorem qs_map {α β : Type} (f : β → Rat) (g : α → β) : ∀ l : List α, qs f (l.map g) = qs (fun a => f (g a)) l
  | [] => rfl
  | a :: l => by show f (g a) + qs f (l.map g) = _; rw [qs_map f g l]; rfl
theorem qs_flat {α β : Type} (f : β → Rat) (g : α → List β) : ∀ l : List α, qs f (l.flatMap g) = qs (fun a => qs f (g a)) l
  | [] => rfl
  | a :: l => by rw [List.flatMap_cons, qs_append, qs_flat f g l]; rfl
theorem qs_single {g : ByteArray → Rat} {w : ByteArray} : ∀ {l : List ByteArray}, (l.Pairwise fun a b => bef a b = true) → w ∈ l → qs (fun s => if s = w then g s else 0) l = g w
  | [], _, h => by cases h
  | a :: l, hp, h => by
    obtain ⟨h1, h2⟩ := List.pairwise_cons.1 hp
    show (if a = w then g a else 0) + qs _ l = g w
    by_cases e : a = w
    · rw [if_pos e, qs_zero (f := fun s => if s = w then g s else 0), e]
      · grind
      · intro b hb
        have := bef_ne (h1 b hb)
        exact if_neg fun e2 => this (e.trans e2.symm)
    · rw [if_neg e, qs_single h2 ((List.mem_cons.1 h).resolve_left fun e2 => e e2.symm)]
      grind
/-! ### rows: what is put -/
theorem puts_rv {d n : Nat} : ∀ {U : Us} {l z : Ts}, isTs d n l = true → (∀ u ∈ U, isWd d u.1 = true ∧ u.1.size ≤ n ∧ ∀ a, u.2 = some a → fr a = true) → putsS l U = some z →
    (∀ u ∈ U, ∃ a, u.2 = some a) ∧ isTs d n z = true ∧ ∀ w, rv (co z w) = rv (co l w) + qs (fun u => if u.1 = w then rv (orZ u.2) else 0) U
  | [], l, z, hl, _, h => by
    have e : l = z := by simpa [putsS] using h
    subst e
    refine ⟨fun u hu => (by cases hu), hl, fun w => ?_⟩
    show _ = rv (co l w) + 0
    grind
  | (s, o) :: U, l, z, hl, hU, h => by
    have hu := hU (s, o) List.mem_cons_self
    have h' : (putS l (s, o)).bind (fun y => putsS y U) = some z := by
      unfold putsS at h ⊢
      rw [List.foldlM_cons] at h
      exact h
    cases o with
    | none => cases h'
    | some a =>
      have h'' : (put l s a).bind (fun y => putsS y U) = some z := h'
      have ha := hu.2.2 a rfl
      rcases put_co hl hu.1 hu.2.1 ha with ⟨e1, _⟩ | ⟨l', c, e1, e2, e3, e4, _⟩
      · rw [e1] at h''; cases h''
      · rw [e1] at h''
        obtain ⟨i1, i2, i3⟩ := puts_rv e3 (fun u hu => hU u (List.mem_cons_of_mem _ hu)) h''
        refine ⟨fun u hu => ?_, i2, fun w => ?_⟩
        · rcases List.mem_cons.1 hu with rfl | hu
          · exact ⟨a, rfl⟩
          · exact i1 u hu
        · rw [i3 w, e4]
          show _ = rv (co l w) + ((if s = w then rv a else 0) + qs _ U)
          unfold upd
          by_cases e : w = s
          · subst e
            rw [if_pos rfl, if_pos rfl, add_rv (co_fr hl w) ha e2]
            grind
          · rw [if_neg e, if_neg (fun h => e h.symm)]
            grind
theorem cut_rv {f g : ByteArray → Fr} (hf : good f) (hg : good g) {s : ByteArray} : ∀ {k : Nat}, (∀ u ∈ cutU f g s k, ∃ a, u.2 = some a) →
    qs (fun u => rv (orZ u.2)) (cutU f g s k) = qs (fun i => rv (f (s.extract 0 i)) * rv (g (s.extract i s.size))) (List.range k)
  | 0, _ => rfl
  | k + 1, h => by
    have h1 : ∀ u ∈ cutU f g s k, ∃ a, u.2 = some a := fun u hu => h u (by rw [cutU_succ]; exact List.mem_append_left _ hu)
    rw [List.range_succ, qs_append, ← cut_rv hf hg h1, cutU_succ, qs_append]
    congr 1
    show _ = rv (f (s.extract 0 k)) * rv (g (s.extract k s.size)) + 0
    by_cases hz : (f (s.extract 0 k)).1 ≠ 0 ∧ (g (s.extract k s.size)).1 ≠ 0
    · rw [if_pos hz]
      show rv (orZ (mul (f (s.extract 0 k)) (g (s.extract k s.size)))) + 0 = _
      obtain ⟨a, ha⟩ := h (s, mul (f (s.extract 0 k)) (g (s.extract k s.size))) (by rw [cutU_succ, if_pos hz]; exact List.mem_append_right _ List.mem_cons_self)
      have ha' : mul (f (s.extract 0 k)) (g (s.extract k s.size)) = some a := ha
      rw [ha']
      show rv a + 0 = _
      rw [mul_rv (hf _) (hg _) ha']
    · rw [if_neg hz]
      show (0 : Rat) = _
      have : rv (f (s.extract 0 k)) = 0 ∨ rv (g (s.extract k s.size)) = 0 := by
        rw [rv_num (hf _), rv_num (hg _)]
        by_cases h0 : (f (s.extract 0 k)).1 = 0
        · exact .inl h0
        · exact .inr (Decidable.byContradiction fun h1 => hz ⟨h0, h1⟩)
      rcases this with e | e <;> rw [e] <;> grind
/-! ### words as lists; products of functions on words -/
def mkW (l : List UInt8) : ByteArray := ⟨l.toArray⟩
theorem bl_mk (l : List UInt8) : bl (mkW l) = l := rfl
theorem mk_bl (s : ByteArray) : mkW (bl s) = s := bl_ext rfl
/-- The values of a row. -/
def qf (l : Ts) (w : List UInt8) : Rat := rv (co l (mkW w))
abbrev Qw := List UInt8 → Rat
def conv (F G : Qw) : Qw
  | [] => F [] * G []
  | a :: l => F [] * G (a :: l) + conv (fun u => F (a :: u)) G l
theorem conv_range (G : Qw) : ∀ (l : List UInt8) (F : Qw), qs (fun k => F (l.take k) * G (l.drop k)) (List.range (l.length + 1)) = conv F G l
  | [], F => by show F [] * G [] + 0 = F [] * G []; grind
  | a :: l, F => by
    rw [List.length_cons, List.range_succ_eq_map]
    show F [] * G (a :: l) + qs _ ((List.range (l.length + 1)).map Nat.succ) = F [] * G (a :: l) + conv (fun u => F (a :: u)) G l
    rw [qs_map, ← conv_range G l (fun u => F (a :: u))]
    rfl
theorem conv_cons (F G : Qw) (a : UInt8) (l : List UInt8) : conv F G (a :: l) = F [] * G (a :: l) + conv (fun u => F (a :: u)) G l := by rw [conv]
theorem conv_nil (F G : Qw) : conv F G [] = F [] * G [] := by rw [conv]
theorem conv_congr {d : Nat} : ∀ {l : List UInt8} {F F' G G' : Qw}, isWL d l = true → (∀ u, isWL d u = true → u.length ≤ l.length → F u = F' u) → (∀ u, isWL d u = true → u.length ≤ l.length → G u = G' u) → conv F G l = conv F' G' l
  | [], F, F', G, G', hl, hF, hG => by rw [conv_nil, conv_nil, hF [] rfl (Nat.le_refl _), hG [] rfl (Nat.le_refl _)]
  | a :: l, F, F', G, G', hl, hF, hG => by
    have hl' : isWL d [a] = true ∧ isWL d l = true := by
      have := isWL_append d [a] l
      rw [show [a] ++ l = a :: l from rfl, hl] at this
      simpa using this.symm
    rw [conv_cons, conv_cons, hF [] rfl (Nat.zero_le _), hG _ hl (Nat.le_refl _)]
    congr 1
    refine conv_congr hl'.2 (fun u hu hn => hF _ ?_ ?_) (fun u hu hn => hG u hu ?_)
    · have := isWL_append d [a] u
      rw [hl'.1, hu] at this
      exact this
    · simpa using hn
    · simp; omega
theorem conv_snoc (G : Qw) (a : UInt8) : ∀ (l : List UInt8) (F : Qw), conv F G (l ++ [a]) = conv F (fun u => G (u ++ [a])) l + F (l ++ [a]) * G []
  | [], F => by
    show conv F G (a :: []) = _
    rw [conv_cons, conv_nil, conv_nil]
    rfl
  | b :: l, F => by
    show conv F G (b :: (l ++ [a])) = _
    rw [conv_cons, conv_snoc G a l (fun u => F (b :: u)), conv_cons]
    simp only [List.cons_append]
    grind
theorem conv_rev (F : Qw) : ∀ (l : List UInt8) (G : Qw), conv (fun u => G u.reverse) (fun u => F u.reverse) l = conv F G l.reverse
  | [], G => by simp only [conv_nil, List.reverse_nil]; grind
  | a :: l, G => by
    rw [conv_cons, List.reverse_cons, conv_snoc, ← conv_rev F l (fun u => G (u ++ [a]))]
    have e : (fun u : List UInt8 => G (a :: u).reverse) = fun u => G (u.reverse ++ [a]) := by funext u; rw [List.reverse_cons]
    rw [e]
    simp only [List.reverse_nil, List.reverse_cons]
    grind
/-- Equal on the words of a series. -/
def OnQ (d n : Nat) (F G : Qw) : Prop := ∀ u, isWL d u = true → u.length ≤ n → F u = G u
theorem OnQ.refl {d n : Nat} (F : Qw) : OnQ d n F F := fun _ _ _ => rfl
theorem OnQ.symm {d n : Nat} {F G : Qw} (h : OnQ d n F G) : OnQ d n G F := fun u a b => (h u a b).symm
theorem OnQ.trans {d n : Nat} {F G H : Qw} (h : OnQ d n F G) (k : OnQ d n G H) : OnQ d n F H := fun u a b => (h u a b).trans (k u a b)
theorem OnQ.conv {d n : Nat} {F F' G G' : Qw} (hF : OnQ d n F F') (hG : OnQ d n G G') : OnQ d n (conv F G) (conv F' G') := fun l hl hn => conv_congr hl (fun u hu h => hF u hu (by omega)) (fun u hu h => hG u hu (by omega))
theorem ts_eq {d n : Nat} {x y : Ts} (hx : isTs d n x = true) (hy : isTs d n y = true) (h : OnQ d n (qf x) (qf y)) : x = y :=
  ts_ext hx hy fun w => by
    by_cases hw : isWd d w = true ∧ w.size ≤ n
    · refine rv_inj (co_fr hx w) (co_fr hy w) ?_
      have := h (bl w) hw.1 (by rw [bl_len]; exact hw.2)
      unfold qf at this
      rw [mk_bl] at this
      exact this
    · rw [co_off hx hw, co_off hy hw]
theorem mul_conv {d n : Nat} (hd : d ≤ 9) {x y z : Ts} (hx : isTs d n x = true) (hy : isTs d n y = true) (h : mulS d n x y = some z) : OnQ d n (qf z) (conv (qf x) (qf y)) := by
  obtain ⟨h1, _, h3⟩ := puts_rv (isTs_nil d n) (timesU_all hd) h
  intro w hw hn
  have hm : mkW w ∈ allW d n := (allW_mem hd).2 ⟨hw, by rw [← bl_len, bl_mk]; exact hn⟩
  have hsz : (mkW w).size = w.length := by rw [← bl_len, bl_mk]
  unfold qf
  rw [h3, co_nil, rv_zero]
  unfold timesU
  rw [qs_flat, ← conv_range]
  have e : qs (fun s => qs (fun u : ByteArray × Option Fr => if u.1 = mkW w then rv (orZ u.2) else 0) (wordU (co x) (co y) s)) (allW d n) = qs (fun s => if s = mkW w then qs (fun u : ByteArray × Option Fr => rv (orZ u.2)) (wordU (co x) (co y) s) else 0) (allW d n) :=
    qs_congr fun s _ => by
      by_cases hs : s = mkW w
      · rw [if_pos hs]
        exact qs_congr fun u hu => if_pos ((cutU_ok u hu).1.trans hs)
      · rw [if_neg hs]
        exact qs_zero fun u hu => if_neg fun e => hs ((cutU_ok u hu).1.symm.trans e)
  rw [e, qs_single (allW_srt hd n) hm]
  unfold wordU
  rw [cut_rv (co_fr hx) (co_fr hy) fun u hu => h1 u (List.mem_flatMap.2 ⟨_, hm, hu⟩), hsz]
  show 0 + _ = _
  have e2 : qs (fun i => rv (co x ((mkW w).extract 0 i)) * rv (co y ((mkW w).extract i w.length))) (List.range (w.length + 1)) = qs (fun k => qf x (w.take k) * qf y (w.drop k)) (List.range (w.length + 1)) :=
    qs_congr fun i _ => by
      unfold qf
      have a1 : (mkW w).extract 0 i = mkW (w.take i) := bl_ext (by rw [bl_wl, bl_mk, bl_mk])
      have a2 : (mkW w).extract i w.length = mkW (w.drop i) := bl_ext (by rw [← hsz, bl_wr, bl_mk, bl_mk])
      rw [a1, a2]
  rw [e2]
  show 0 + _ = qs (fun k => rv (co x (mkW (w.take k))) * rv (co y (mkW (w.drop k)))) _
  unfold qf
  grind
/-! ### what follows -/
end Go.Proofs.Ytibjkjhpfmmjoaa.M


/- Small words for the walks: worlds that have grown, returned values. Conditions: none. -/
namespace Go.Proofs.Ytibjkjhpfmmjoaa.H
open Go.RowKit Go.Proofs.YtibjkjhpfmmjoaaW.PrintWords
set_option linter.unusedVariables false
set_option linter.unusedSimpArgs false

theorem ret_int {k : IntKind} {a b : Int} (h : a = b) : Ending.returned (.int k a) = .returned (.int k b) := by rw [h]
theorem ret_bool {a b : Bool} (h : a = b) : Ending.returned (.bool a) = .returned (.bool b) := by rw [h]
theorem ret_str {a b : ByteArray} (h : a = b) : Ending.returned (.string a) = .returned (.string b) := by rw [h]
/-- What stood before stands behind. -/
theorem bcell {W w1 : World} (hb : Below W.heap.size W w1) : (∀ b o, b < W.heap.size → w1.cell? ⟨b, o, none⟩ = W.cell? ⟨b, o, none⟩) ∧ (∀ b o, b < W.heap.size → w1.frozen? ⟨b, o, none⟩ = W.frozen? ⟨b, o, none⟩) :=
  ⟨fun b o h => hb.cell (p := ⟨b, o, none⟩) h, fun b o h => hb.frozen (p := ⟨b, o, none⟩) h⟩
theorem below_pair {w w1 w2 : World} (h : Below w.heap.size w w1) (k : Below w1.heap.size w1 w2) : Below w.heap.size w w2 := below_then h h.size k
theorem drawn_none (w : World) : ∃ m, w = w.drewN m := ⟨0, rfl⟩
end Go.Proofs.Ytibjkjhpfmmjoaa.H

/- Rows of terms in memory: the printed kinds and our own. Conditions: none. -/
namespace Go.Proofs.Ytibjkjhpfmmjoaa.H
open Go.RowKit Go.Proofs.YtibjkjhpfmmjoaaW.PrintWords Go.Proofs.YtibjkjhpfmmjoaaW.PrintLast Go.Proofs.YtibjkjhpfmmjoaaW.PrintMore Go.Proofs.Ytibjkjhpfmmjoaa.M
set_option linter.unusedVariables false
/-- A term's three cells. -/
abbrev KT : Kd Tm := Kd.pair Kd.string (Kd.pair (Kd.int .i64) (Kd.int .i64))
section
variable {α β : Type} {d1 : Kd α} {d2 : Kd β}
end
end Go.Proofs.Ytibjkjhpfmmjoaa.H

/- What comparing two strings returns: proved by walking the library's code. Conditions: none. -/
namespace Go.Proofs.Ytibjkjhpfmmjoaa.H
open Go.RowKit Go.Proofs.YtibjkjhpfmmjoaaW.PrintWords
set_option linter.unusedVariables false
set_option maxRecDepth 100000
theorem bytealgCompare (a b : ByteArray) (w : World) : Calls Try.prog 147 #[.string a, .string b] w fun e w' => e = .returned (.int .i64 (Lib.compareBytes a.data.toList b.data.toList)) ∧ w' = w := by
  go_enter Try.func147, Try.ntmps147
  go_wp2
  rw [run_callFunc_extern Try.func148 (by kernel_rfl) (by kernel_rfl) (by kernel_rfl) (e := Extern.BytealgCompare.compare) (by kernel_rfl), Lib.run_compareString]
  simp only [Result.andThen]
  rw [Oper.upon_value]
  go_wp2
  go_ret
  exact ⟨rfl, rfl⟩
theorem stringsCompare (a b : ByteArray) (w : World) : Calls Try.prog 144 #[.string a, .string b] w fun e w' => e = .returned (.int .i64 (Lib.compareBytes a.data.toList b.data.toList)) ∧ ∃ n, w' = w.drewN n := by
  go_enter Try.func144, Try.ntmps144
  go_wp2_with (first | (go_at_call 147; refine (bytealgCompare _ _ _).mono ?_; rintro e w' ⟨rfl, rfl⟩))
  go_ret
  exact ⟨rfl, by first | exact ⟨_, rfl⟩ | exact drawn_none _⟩
end Go.Proofs.Ytibjkjhpfmmjoaa.H

/- What a series that can be read holds. Conditions: none. -/
namespace Go.Proofs.Ytibjkjhpfmmjoaa.H
open Go.RowKit Go.ChangeShapes Go.ChangeAt Go.Joins Go.Deep Go.ChangeMaps Go.Proofs.YtibjkjhpfmmjoaaW.PrintWords Go.Proofs.YtibjkjhpfmmjoaaW.PrintLast Go.Proofs.YtibjkjhpfmmjoaaW.PrintMore Go.Proofs.Ytibjkjhpfmmjoaa.M
set_option linter.unusedVariables false
set_option linter.unusedSimpArgs false

/-- A reading of a value of type t tells what its cells are of kind d, and Q of it. -/
def OpensQ (P : Program) {α : Type} (d : Kd α) (t : TypeId) (Q : α → Prop) : Prop := ∀ (H : Type) (enc : TypeId × Value → H) (w : World) (fuel : Nat) (cs : List Value) (x : DataW H × List MemPlace), DataW.trod enc P w 0 (fun _ => true) true fuel t cs = some x → ∃ a : α, Q a ∧ d.K w a cs
section
variable {P : Program} {t e : TypeId} {α β : Type}
theorem opensQ_slice [Inhabited α] {d : Kd α} {Q : α → Prop} (ht : P.underlying t = some (.slice e)) (hc : P.cellsOf e = d.sz) (ha : OpensQ P d e Q) : OpensQ P (Kd.slice e d) t (fun l => ∀ a ∈ l, Q a) := fun H enc w fuel cs x h => by
  rcases open_slice ht h with ⟨rfl, _⟩ | ⟨a, len, cap, m, n, D, Pl, rfl, hb, hl, hm, hmm, _, hx⟩
  · exact ⟨[], by simp, none, 0, rfl, Nat.le_refl _, Kd.C_nil d w⟩
  · simp only [if_true] at hmm
    obtain ⟨f, hf⟩ := choose_lt (n := m) (p := fun i y => Q y ∧ ∃ c : List Value, c.length = d.sz ∧ d.K w y c ∧ ∀ i' u, c[i']? = some u → w.cell? (a.add (i * d.sz + i')) = some u) (fun i hi => by
      obtain ⟨c, h1, h2⟩ := hx i hi
      rw [hc] at h1
      obtain ⟨_, hlen, hcell⟩ := World.cells?_some h1
      obtain ⟨y, qy, hy⟩ := ha _ _ _ _ _ _ h2
      refine ⟨y, qy, c, hlen, hy, fun i' u hu => ?_⟩
      have hi' : i' < d.sz := by rw [← hlen]; exact (List.getElem?_eq_some_iff.1 hu).1
      have := hcell i' hi'
      rw [← hu, ← this]
      rw [Go.Deep.add_add])
    refine ⟨(List.range len).map f, ?_, some a, cap, by simp, by simpa using hl, by simp, ?_, fun _ => ⟨a, rfl, fun j p hj => ?_⟩⟩
    · intro y hy
      obtain ⟨i, hi, rfl⟩ := List.mem_map.1 hy
      exact (hf i (by have := List.mem_range.1 hi; omega)).1
    · simp only [List.length_map, List.length_range]
      unfold maxLen at hm; omega
    · obtain ⟨hj1, hj2⟩ := List.getElem?_eq_some_iff.1 hj
      simp only [List.length_map, List.length_range] at hj1
      obtain ⟨_, c, h1, h2, h3⟩ := hf j (by omega)
      refine ⟨c, h1, ?_, h3⟩
      rw [List.getElem_map, List.getElem_range] at hj2
      rw [← hj2]; exact h2
end
end Go.Proofs.Ytibjkjhpfmmjoaa.H


