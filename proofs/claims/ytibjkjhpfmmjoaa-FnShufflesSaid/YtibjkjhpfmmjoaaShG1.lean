/- Plain facts and contracts of functions that the law's walk uses. Conditions: those that stand in each statement. -/
import Derived.WalkKit
import Derived.Lib.IndexBytes
set_option linter.unusedVariables false
set_option linter.unusedSimpArgs false

/- Plain facts on whole numbers and fractions: greatest common divisors, lowest terms, what fits. Nothing of the program. Conditions: none. -/
namespace Go.Proofs.Ytibjkjhpfmmjoaa.M
set_option linter.unusedVariables false
set_option linter.unusedSimpArgs false

theorem gcd_tmod (a b : Int) : Int.gcd b (a.tmod b) = Int.gcd a b := by
  unfold Int.gcd
  rw [Int.natAbs_tmod, Nat.gcd_comm, ← Nat.gcd_rec, Nat.gcd_comm]
theorem tmod_lt {a b : Int} (h : b ≠ 0) : (a.tmod b).natAbs < b.natAbs := by
  rw [Int.natAbs_tmod]; exact Nat.mod_lt _ (by omega)
theorem tmod_le (a b : Int) : (a.tmod b).natAbs ≤ a.natAbs := by
  rw [Int.natAbs_tmod]; exact Nat.mod_le _ _

def inR (a b c : Int) : Bool := decide (b ≤ a ∧ a ≤ c)
theorem inR_iff (a b c : Int) : inR a b c = true ↔ b ≤ a ∧ a ≤ c := by simp [inR]
def isFr (a b : Int) : Bool := inR b 1 1000000000 && (inR a (-1000000000) 1000000000 && decide ((Int.gcd a b : Int) = 1))
theorem isFr_iff (a b : Int) : isFr a b = true ↔ 1 ≤ b ∧ b ≤ 1000000000 ∧ -1000000000 ≤ a ∧ a ≤ 1000000000 ∧ Int.gcd a b = 1 := by
  unfold isFr
  simp only [Bool.and_eq_true, inR_iff, decide_eq_true_eq]
  omega

def sgd (a b : Int) : Int := if b < 0 then -(Int.gcd a b : Int) else (Int.gcd a b : Int)
def rnum (a b : Int) : Int := Int.tdiv a (sgd a b)
def rden (a b : Int) : Int := Int.tdiv b (sgd a b)
def okN (a b : Int) : Bool := isFr (rnum a b) (rden a b)
def frac (a b : Int) : Option (Int × Int) := if b ≠ 0 ∧ okN a b = true then some (rnum a b, rden a b) else none

theorem gcd_pos {a b : Int} (h : b ≠ 0) : 0 < (Int.gcd a b : Int) := by
  have : Int.gcd a b ≠ 0 := by rw [Ne, Int.gcd_eq_zero_iff]; omega
  omega
theorem gcd_le {a b : Int} (h : b ≠ 0) : (Int.gcd a b : Int) ≤ b.natAbs := by
  have : Int.gcd a b ≤ b.natAbs := Nat.gcd_le_right _ (by omega)
  omega
theorem sgd_ne {a b : Int} (h : b ≠ 0) : sgd a b ≠ 0 := by
  unfold sgd; have := gcd_pos (a := a) h; split <;> omega
theorem tdiv_abs (a d : Int) : (Int.tdiv a d).natAbs ≤ a.natAbs := by
  rw [Int.natAbs_tdiv]; exact Nat.div_le_self _ _
theorem rnum_abs (a b : Int) : (rnum a b).natAbs ≤ a.natAbs := tdiv_abs _ _
theorem rden_abs (a b : Int) : (rden a b).natAbs ≤ b.natAbs := tdiv_abs _ _

abbrev Fr := Int × Int
def fr (a : Fr) : Bool := isFr a.1 a.2
def small (a : Fr) : Prop := -1000000000 ≤ a.1 ∧ a.1 ≤ 1000000000 ∧ -1000000000 ≤ a.2 ∧ a.2 ≤ 1000000000
theorem fr_small {a : Fr} (h : fr a = true) : small a := by
  have := (isFr_iff _ _).1 h; unfold small; omega
theorem fr_den {a : Fr} (h : fr a = true) : 1 ≤ a.2 := ((isFr_iff _ _).1 h).1
def add (a b : Fr) : Option Fr := frac (a.1 * b.2 + b.1 * a.2) (a.2 * b.2)
def mul (a b : Fr) : Option Fr := frac (a.1 * b.1) (a.2 * b.2)
theorem mul_abs {a b : Int} {m n : Nat} (ha : a.natAbs ≤ m) (hb : b.natAbs ≤ n) : (a * b).natAbs ≤ m * n := by
  rw [Int.natAbs_mul]; exact Nat.mul_le_mul ha hb
theorem small_mul {a b : Int} (ha : -1000000000 ≤ a ∧ a ≤ 1000000000) (hb : -1000000000 ≤ b ∧ b ≤ 1000000000) : -1000000000000000000 ≤ a * b ∧ a * b ≤ 1000000000000000000 := by
  have := mul_abs (a := a) (b := b) (m := 1000000000) (n := 1000000000) (by omega) (by omega)
  omega
theorem frac_fr {a b : Int} {c : Fr} (h : frac a b = some c) : fr c = true := by
  unfold frac at h
  split at h
  · rename_i hh; injection h with h; subst h; exact hh.2
  · cases h
theorem frac_ok {a b : Int} (h : b ≠ 0) (hk : okN a b = true) : frac a b = some (rnum a b, rden a b) := by unfold frac; rw [if_pos ⟨h, hk⟩]
theorem frac_bad {a b : Int} (hk : okN a b = false) : frac a b = none := by unfold frac; rw [if_neg (by simp [hk])]
theorem frac_zero (a : Int) : frac a 0 = none := by unfold frac; rw [if_neg (by simp)]
def told : Option Fr → Fr × Int
  | some c => (c, 0)
  | none => ((0, 0), 3)
def sfrac : Option Fr → Fr × Bool
  | some c => (c, true)
  | none => ((0, 0), false)
theorem wrap_id {x : Int} (h0 : -9223372036854775808 ≤ x) (h1 : x ≤ 9223372036854775807) : Go.RowKit.wrap64 x = x := by
  unfold Go.RowKit.wrap64; omega
end Go.Proofs.Ytibjkjhpfmmjoaa.M

/- The plain words of n letters: what spec.l01Words makes. -/
namespace Go.Proofs.Ytibjkjhpfmmjoaa.M
def letter (q : Nat) : ByteArray := ⟨#[(48 + q).toUInt8]⟩
def nextWords (d : Nat) (out : List ByteArray) : List ByteArray := out.flatMap fun s => (List.range d).map fun k => s ++ letter k
def wordsN (d : Nat) : Nat → List ByteArray
  | 0 => [⟨#[]⟩]
  | n + 1 => nextWords d (wordsN d n)
theorem nextWords_take (d : Nat) (out : List ByteArray) (i : Nat) (h : i < out.length) :
    nextWords d (out.take (i + 1)) = nextWords d (out.take i) ++ (List.range d).map fun k => out[i] ++ letter k := by
  unfold nextWords
  rw [List.take_succ_eq_append_getElem h, List.flatMap_append]
  simp
theorem nextWords_length (d : Nat) (out : List ByteArray) : (nextWords d out).length = out.length * d := by
  unfold nextWords
  induction out with
  | nil => simp
  | cons s r ih => rw [List.flatMap_cons, List.length_append, ih, List.length_map, List.length_range, List.length_cons, Nat.add_mul, Nat.one_mul, Nat.add_comm]
theorem wordsN_length (d n : Nat) : (wordsN d n).length = d ^ n := by
  induction n with
  | zero => rfl
  | succ n ih => rw [wordsN, nextWords_length, ih, Nat.pow_succ]
theorem wordsN_le {d n : Nat} (hd : d ≤ 3) (hn : n ≤ 8) : (wordsN d n).length ≤ 6561 := by
  rw [wordsN_length]
  exact Nat.le_trans (Nat.pow_le_pow_left hd n) (Nat.pow_le_pow_right (n := 3) (by omega) hn)
theorem wordsN_size {d : Nat} : ∀ {n : Nat} {s : ByteArray}, s ∈ wordsN d n → s.size = n
  | 0, s, h => by
    obtain rfl : s = ⟨#[]⟩ := by simpa [wordsN] using h
    rfl
  | n + 1, s, h => by
    simp only [wordsN, nextWords, List.mem_flatMap, List.mem_map, List.mem_range] at h
    obtain ⟨t, ht, q, hq, rfl⟩ := h
    have := wordsN_size ht
    rw [ByteArray.size_append, this]; rfl
theorem getD_mem {l : List ByteArray} {j : Nat} (h : j < l.length) : l.getD j ByteArray.empty ∈ l := by
  rw [List.getD_eq_getElem?_getD, List.getElem?_eq_getElem h]; exact List.getElem_mem _
def makingW (d : Nat) (ws : List ByteArray) (j q : Nat) : List ByteArray := nextWords d (ws.take j) ++ (List.range q).map fun k => ws.getD j ByteArray.empty ++ letter k
theorem makingW_zero (d : Nat) (ws : List ByteArray) (j : Nat) : makingW d ws j 0 = nextWords d (ws.take j) := by simp [makingW]
theorem makingW_next (d : Nat) (ws : List ByteArray) (j q : Nat) : makingW d ws j (q + 1) = makingW d ws j q ++ [ws.getD j ByteArray.empty ++ letter q] := by
  unfold makingW; rw [List.range_succ, List.map_append, List.append_assoc]; rfl
theorem makingW_end (d : Nat) (ws : List ByteArray) (j : Nat) (h : j < ws.length) : makingW d ws j d = nextWords d (ws.take (j + 1)) := by
  unfold makingW; rw [nextWords_take d ws j h, List.getD_eq_getElem?_getD, List.getElem?_eq_getElem h]; rfl
theorem makingW_le {d : Nat} {ws : List ByteArray} (hd : d ≤ 3) (hw : ws.length ≤ 6561) (j q : Nat) (hq : q ≤ 3) : (makingW d ws j q).length ≤ 20000 := by
  unfold makingW
  rw [List.length_append, nextWords_length, List.length_map, List.length_range, List.length_take]
  have : min j ws.length * d ≤ 6561 * 3 := Nat.mul_le_mul (by omega) hd
  omega
end Go.Proofs.Ytibjkjhpfmmjoaa.M

/- Plain facts on words, their order and their numbers, and on rows of terms. Nothing of the program. Conditions: none. -/
namespace Go.Proofs.Ytibjkjhpfmmjoaa.M
set_option linter.unusedVariables false
set_option linter.unusedSimpArgs false

/-! ### words -/
def bl (s : ByteArray) : List UInt8 := s.data.toList
theorem bl_ext {s t : ByteArray} (h : bl s = bl t) : s = t := by
  cases s; cases t; simp only [bl] at h; congr; exact Array.toList_inj.1 h
theorem bl_len (s : ByteArray) : (bl s).length = s.size := by simp [bl]
theorem bl_append (s t : ByteArray) : bl (s ++ t) = bl s ++ bl t := by simp [bl]
theorem bl_letter (q : Nat) : bl (letter q) = [(48 + q).toUInt8] := rfl
def isWL (d : Nat) (l : List UInt8) : Bool := l.all fun c => decide (48 ≤ c.toNat ∧ c.toNat < 48 + d)
def isWd (d : Nat) (s : ByteArray) : Bool := isWL d (bl s)
theorem letter_nat {q : Nat} (h : q < 10) : (48 + q).toUInt8.toNat = 48 + q := by
  have : (48 + q) % 256 = 48 + q := by omega
  simpa using this

/-! ### the order -/
abbrev bless := Go.Op.bytesLess
theorem bless_irrefl : ∀ l : List UInt8, bless l l = false
  | [] => rfl
  | a :: x => by simp [bless, Go.Op.bytesLess, bless_irrefl x]
theorem bless_trans : ∀ {a b c : List UInt8}, bless a b = true → bless b c = true → bless a c = true
  | _, [], _, h, _ => by cases ‹List UInt8› <;> simp [bless, Go.Op.bytesLess] at h
  | [], b :: y, [], _, k => by simp [bless, Go.Op.bytesLess] at k
  | [], b :: y, c :: z, _, _ => by simp [bless, Go.Op.bytesLess]
  | a :: x, b :: y, [], _, k => by simp [bless, Go.Op.bytesLess] at k
  | a :: x, b :: y, c :: z, h, k => by
    simp only [bless, Go.Op.bytesLess, Bool.or_eq_true, Bool.and_eq_true, decide_eq_true_eq, beq_iff_eq] at h k ⊢
    rcases h with h | ⟨rfl, h⟩
    · rcases k with k | ⟨rfl, k⟩
      · exact .inl (UInt8.lt_trans h k)
      · exact .inl h
    · rcases k with k | ⟨rfl, k⟩
      · exact .inl k
      · exact .inr ⟨rfl, bless_trans h k⟩
theorem bless_tri : ∀ {a b : List UInt8}, bless a b = false → bless b a = false → a = b
  | [], [], _, _ => rfl
  | [], b :: y, h, _ => by simp [bless, Go.Op.bytesLess] at h
  | a :: x, [], _, k => by simp [bless, Go.Op.bytesLess] at k
  | a :: x, b :: y, h, k => by
    simp only [bless, Go.Op.bytesLess, Bool.or_eq_false_iff, Bool.and_eq_false_iff, decide_eq_false_iff_not, beq_eq_false_iff_ne] at h k
    have e : a = b := by
      have h1 : ¬ a.toNat < b.toNat := by simpa [UInt8.lt_iff_toNat_lt] using h.1
      have k1 : ¬ b.toNat < a.toNat := by simpa [UInt8.lt_iff_toNat_lt] using k.1
      exact UInt8.toNat_inj.1 (by omega)
    subst e
    rw [bless_tri (h.2.resolve_left (fun hn => hn rfl)) (k.2.resolve_left (fun hn => hn rfl))]
def befL (v w : List UInt8) : Bool := if v.length = w.length then bless v w else decide (v.length < w.length)
def bef (v w : ByteArray) : Bool := befL (bl v) (bl w)
theorem befL_irrefl (v : List UInt8) : befL v v = false := by simp [befL, bless_irrefl]
theorem befL_trans {a b c : List UInt8} (h : befL a b = true) (k : befL b c = true) : befL a c = true := by
  unfold befL at *
  by_cases h1 : a.length = b.length <;> by_cases h2 : b.length = c.length
  · rw [if_pos h1] at h; rw [if_pos h2] at k; rw [if_pos (h1.trans h2)]; exact bless_trans h k
  · rw [if_neg h2] at k; rw [if_neg (by omega)]; simp at k ⊢; omega
  · rw [if_neg h1] at h; rw [if_neg (by omega)]; simp at h ⊢; omega
  · rw [if_neg h1] at h; rw [if_neg h2] at k; simp at h k; rw [if_neg (by omega)]; simp; omega
theorem befL_tri {a b : List UInt8} (h : befL a b = false) (k : befL b a = false) : a = b := by
  unfold befL at *
  by_cases h1 : a.length = b.length
  · rw [if_pos h1] at h; rw [if_pos h1.symm] at k; exact bless_tri h k
  · rw [if_neg h1] at h; rw [if_neg (by omega)] at k; simp at h k; omega
theorem bef_irrefl (v : ByteArray) : bef v v = false := befL_irrefl _
theorem bef_trans {a b c : ByteArray} (h : bef a b = true) (k : bef b c = true) : bef a c = true := befL_trans h k
theorem bef_tri {a b : ByteArray} (h : bef a b = false) (k : bef b a = false) : a = b := bl_ext (befL_tri h k)
theorem bef_ne {a b : ByteArray} (h : bef a b = true) : a ≠ b := fun e => by rw [e, bef_irrefl] at h; cases h

/-! ### rows of terms -/
abbrev Tm := ByteArray × Int × Int
abbrev Ts := List Tm
def isTm (d n : Nat) (t : Tm) : Bool := isWd d t.1 && (decide (t.1.size ≤ n) && (isFr t.2.1 t.2.2 && decide (t.2.1 ≠ 0)))
def asc : Ts → Bool
  | a :: b :: r => bef a.1 b.1 && asc (b :: r)
  | _ => true
def isTs (d n : Nat) (l : Ts) : Bool := l.all (isTm d n) && asc l
def Srt (l : Ts) : Prop := l.Pairwise fun a b => bef a.1 b.1 = true
theorem asc_srt : ∀ {l : Ts}, asc l = true ↔ Srt l
  | [] => by simp [asc, Srt]
  | [a] => by simp [asc, Srt]
  | a :: b :: r => by
    have ih := asc_srt (l := b :: r)
    unfold Srt at *
    rw [List.pairwise_cons]
    simp only [asc, Bool.and_eq_true]
    constructor
    · rintro ⟨h1, h2⟩
      have h3 := ih.1 h2
      refine ⟨fun c hc => ?_, h3⟩
      rcases List.mem_cons.1 hc with rfl | hc
      · exact h1
      · exact bef_trans h1 ((List.pairwise_cons.1 h3).1 c hc)
    · rintro ⟨h1, h2⟩
      exact ⟨h1 b List.mem_cons_self, ih.2 h2⟩
theorem isTs_iff {d n : Nat} {l : Ts} : isTs d n l = true ↔ (∀ t ∈ l, isTm d n t = true) ∧ Srt l := by
  unfold isTs; rw [Bool.and_eq_true, List.all_eq_true, asc_srt]
theorem asc_at : ∀ {l : Ts}, asc l = true ↔ ∀ j, (h : j + 1 < l.length) → bef (l[j]'(by omega)).1 l[j + 1].1 = true
  | [] => by simp [asc]
  | [a] => by simp [asc]
  | a :: b :: r => by
    have ih := asc_at (l := b :: r)
    simp only [asc, Bool.and_eq_true, ih]
    constructor
    · rintro ⟨h1, h2⟩ j hj
      cases j with
      | zero => exact h1
      | succ j => exact h2 j (by simpa using hj)
    · intro h
      exact ⟨h 0 (by simp), fun j hj => h (j + 1) (by simpa using hj)⟩
theorem isTs_at {d n : Nat} {l : Ts} : isTs d n l = true ↔ ∀ j, (h : j < l.length) → isTm d n l[j] = true ∧ (∀ (h0 : 0 < j), bef (l[j - 1]'(by omega)).1 l[j].1 = true) := by
  unfold isTs
  rw [Bool.and_eq_true, List.all_eq_true, asc_at]
  constructor
  · rintro ⟨h1, h2⟩ j hj
    refine ⟨h1 _ (List.getElem_mem _), fun h0 => ?_⟩
    have := h2 (j - 1) (by omega)
    simpa only [Nat.sub_add_cancel h0] using this
  · intro h
    refine ⟨fun t ht => ?_, fun j hj => ?_⟩
    · obtain ⟨j, hj, rfl⟩ := List.getElem_of_mem ht
      exact (h j hj).1
    · have := (h (j + 1) hj).2 (by omega)
      simpa using this

def co (l : Ts) (w : ByteArray) : Fr := match l.find? (fun t => decide (t.1 = w)) with
  | some t => t.2
  | none => (0, 1)
theorem co_nil (w : ByteArray) : co [] w = (0, 1) := rfl
theorem co_cons (t : Tm) (l : Ts) (w : ByteArray) : co (t :: l) w = if t.1 = w then t.2 else co l w := by
  unfold co
  rw [List.find?_cons]
  by_cases h : t.1 = w
  · simp [h]
  · rw [if_neg h, decide_eq_false h]
theorem co_none {l : Ts} {w : ByteArray} (h : ∀ t ∈ l, t.1 ≠ w) : co l w = (0, 1) := by
  induction l with
  | nil => rfl
  | cons t r ih => rw [co_cons, if_neg (h t List.mem_cons_self)]; exact ih fun u hu => h u (List.mem_cons_of_mem _ hu)
theorem co_mem {l : Ts} (hs : Srt l) {t : Tm} (ht : t ∈ l) : co l t.1 = t.2 := by
  induction l with
  | nil => cases ht
  | cons u r ih =>
    obtain ⟨h1, h2⟩ := List.pairwise_cons.1 hs
    rw [co_cons]
    rcases List.mem_cons.1 ht with rfl | ht
    · simp
    · rw [if_neg (bef_ne (h1 t ht))]; exact ih h2 ht
theorem co_zero_or {l : Ts} (w : ByteArray) : co l w = (0, 1) ∨ ∃ t ∈ l, t.1 = w ∧ co l w = t.2 := by
  induction l with
  | nil => exact .inl rfl
  | cons t r ih =>
    rw [co_cons]
    by_cases h : t.1 = w
    · exact .inr ⟨t, List.mem_cons_self, h, by rw [if_pos h]⟩
    · rw [if_neg h]
      rcases ih with e | ⟨u, hu, e, k⟩
      · exact .inl e
      · exact .inr ⟨u, List.mem_cons_of_mem _ hu, e, k⟩
theorem isTm_fr {d n : Nat} {t : Tm} (h : isTm d n t = true) : fr t.2 = true ∧ t.2.1 ≠ 0 ∧ isWd d t.1 = true ∧ t.1.size ≤ n := by
  simp only [isTm, Bool.and_eq_true, decide_eq_true_eq] at h
  exact ⟨h.2.2.1, h.2.2.2, h.1, h.2.1⟩
theorem fr_zero : fr (0, 1) = true := by decide
theorem co_fr {d n : Nat} {l : Ts} (h : isTs d n l = true) (w : ByteArray) : fr (co l w) = true := by
  rcases co_zero_or (l := l) w with e | ⟨t, ht, _, e⟩
  · rw [e]; exact fr_zero
  · rw [e]; exact (isTm_fr ((isTs_iff.1 h).1 t ht)).1
theorem mem_iff_co {d n : Nat} {l : Ts} (h : isTs d n l = true) (t : Tm) : t ∈ l ↔ co l t.1 = t.2 ∧ t.2.1 ≠ 0 := by
  obtain ⟨h1, h2⟩ := isTs_iff.1 h
  constructor
  · intro ht; exact ⟨co_mem h2 ht, (isTm_fr (h1 t ht)).2.1⟩
  · rintro ⟨hc, hn⟩
    rcases co_zero_or (l := l) t.1 with e | ⟨u, hu, e, k⟩
    · rw [e] at hc; rw [← hc] at hn; exact absurd rfl hn
    · have : u = t := Prod.ext e (k.symm.trans hc)
      exact this ▸ hu
theorem srt_ext : ∀ {l m : Ts}, Srt l → Srt m → (∀ t, t ∈ l ↔ t ∈ m) → l = m
  | [], [], _, _, _ => rfl
  | [], b :: m, _, _, h => absurd ((h b).2 List.mem_cons_self) (by simp)
  | a :: l, [], _, _, h => absurd ((h a).1 List.mem_cons_self) (by simp)
  | a :: l, b :: m, hl, hm, h => by
    obtain ⟨l1, l2⟩ := List.pairwise_cons.1 hl
    obtain ⟨m1, m2⟩ := List.pairwise_cons.1 hm
    have e : a = b := by
      rcases List.mem_cons.1 ((h a).1 List.mem_cons_self) with e | ha
      · exact e
      · rcases List.mem_cons.1 ((h b).2 List.mem_cons_self) with e | hb
        · exact e.symm
        · have := bef_trans (m1 a ha) (l1 b hb)
          rw [bef_irrefl] at this; cases this
    subst e
    have : l = m := srt_ext l2 m2 fun t => by
      constructor
      · intro ht
        rcases List.mem_cons.1 ((h t).1 (List.mem_cons_of_mem _ ht)) with rfl | hm
        · have := l1 t ht; rw [bef_irrefl] at this; cases this
        · exact hm
      · intro ht
        rcases List.mem_cons.1 ((h t).2 (List.mem_cons_of_mem _ ht)) with rfl | hm
        · have := m1 t ht; rw [bef_irrefl] at this; cases this
        · exact hm
    rw [this]
theorem ts_ext {d n : Nat} {l m : Ts} (hl : isTs d n l = true) (hm : isTs d n m = true) (h : ∀ w, co l w = co m w) : l = m :=
  srt_ext (isTs_iff.1 hl).2 (isTs_iff.1 hm).2 fun t => by rw [mem_iff_co hl, mem_iff_co hm, h]

/-! ### fractions once more -/
theorem sgd_one {a b : Int} (h : isFr a b = true) : sgd a b = 1 := by
  obtain ⟨h1, h2, h3, h4, h5⟩ := (isFr_iff _ _).1 h
  unfold sgd; rw [if_neg (by omega), h5]; rfl
theorem frac_self {a b : Int} (h : isFr a b = true) : frac a b = some (a, b) := by
  have hs := sgd_one h
  have h1 := ((isFr_iff _ _).1 h).1
  have hn : rnum a b = a := by unfold rnum; rw [hs, Int.tdiv_one]
  have hd : rden a b = b := by unfold rden; rw [hs, Int.tdiv_one]
  rw [frac_ok (by omega) (by unfold okN; rw [hn, hd]; exact h), hn, hd]
theorem add_zero_left {a : Fr} (h : fr a = true) : add (0, 1) a = some a := by
  unfold add
  simp only [Int.zero_mul, Int.mul_one, Int.zero_add, Int.one_mul]
  exact frac_self h
theorem add_zero_right {a : Fr} (h : fr a = true) : add a (0, 1) = some a := by
  unfold add
  simp only [Int.zero_mul, Int.mul_one, Int.add_zero]
  exact frac_self h
theorem fr_num0 {a : Fr} (h : fr a = true) (h0 : a.1 = 0) : a = (0, 1) := by
  obtain ⟨h1, h2, h3, h4, h5⟩ := (isFr_iff _ _).1 h
  rw [h0, Int.gcd_zero_left] at h5
  exact Prod.ext h0 (by simp only; omega)
theorem add_fr {a b c : Fr} (h : add a b = some c) : fr c = true := frac_fr h
theorem mul_fr {a b c : Fr} (h : mul a b = some c) : fr c = true := frac_fr h

/-! ### putting -/
def put : Ts → ByteArray → Fr → Option Ts
  | [], w, a => some (if a.1 = 0 then [] else [(w, a)])
  | t :: r, w, a => if bef t.1 w = true then (put r w a).map (t :: ·) else if t.1 = w then (add t.2 a).map (fun s => if s.1 = 0 then r else (w, s) :: r) else some (if a.1 = 0 then t :: r else (w, a) :: t :: r)
def upd (f : ByteArray → Fr) (w : ByteArray) (a : Fr) : ByteArray → Fr := fun v => if v = w then a else f v
theorem isTm_mk {d n : Nat} {w : ByteArray} {a : Fr} (hw : isWd d w = true) (hn : w.size ≤ n) (ha : fr a = true) (h0 : a.1 ≠ 0) : isTm d n (w, a) = true := by
  unfold isTm; simp only [hw, Bool.true_and, Bool.and_eq_true, decide_eq_true_eq]; exact ⟨hn, ha, h0⟩
theorem put_co : ∀ {d n : Nat} {l : Ts} {w : ByteArray} {a : Fr}, isTs d n l = true → isWd d w = true → w.size ≤ n → fr a = true →
    (put l w a = none ∧ add (co l w) a = none) ∨ ∃ l' s, put l w a = some l' ∧ add (co l w) a = some s ∧ isTs d n l' = true ∧ (∀ v, co l' v = upd (co l) w s v) ∧ (∀ u ∈ l', u.1 = w ∨ ∃ t ∈ l, t.1 = u.1)
  | d, n, [], w, a, h, hw, hn, ha => by
    right
    rw [co_nil, add_zero_left ha]
    refine ⟨_, a, rfl, rfl, ?_, fun v => ?_, ?_⟩
    · by_cases h0 : a.1 = 0
      · rw [if_pos h0]; rfl
      · rw [if_neg h0, isTs_iff]; exact ⟨fun t ht => by rw [List.mem_singleton.1 ht]; exact isTm_mk hw hn ha h0, List.pairwise_singleton _ _⟩
    · unfold upd
      by_cases h0 : a.1 = 0
      · rw [if_pos h0, co_nil, fr_num0 ha h0]; split <;> rfl
      · rw [if_neg h0, co_cons, co_nil]; simp only [eq_comm]
    · by_cases h0 : a.1 = 0
      · rw [if_pos h0]; intro u hu; cases hu
      · rw [if_neg h0]; intro u hu; rw [List.mem_singleton.1 hu]; exact .inl rfl
  | d, n, t :: r, w, a, h, hw, hn, ha => by
    obtain ⟨h1, h2⟩ := isTs_iff.1 h
    obtain ⟨h3, h4⟩ := List.pairwise_cons.1 h2
    have hr : isTs d n r = true := isTs_iff.2 ⟨fun u hu => h1 u (List.mem_cons_of_mem _ hu), h4⟩
    by_cases hb : bef t.1 w = true
    · have hne := bef_ne hb
      rcases put_co hr hw hn ha with ⟨e1, e2⟩ | ⟨l', s, e1, e2, e3, e4, e5⟩
      · left
        refine ⟨by simp only [put, hb, if_true, e1]; rfl, by rw [co_cons, if_neg hne]; exact e2⟩
      · right
        refine ⟨t :: l', s, by simp only [put, hb, if_true, e1]; rfl, by rw [co_cons, if_neg hne]; exact e2, ?_, fun v => ?_, ?_⟩
        · obtain ⟨k1, k2⟩ := isTs_iff.1 e3
          refine isTs_iff.2 ⟨fun u hu => ?_, List.pairwise_cons.2 ⟨fun u hu => ?_, k2⟩⟩
          · rcases List.mem_cons.1 hu with rfl | hu
            · exact h1 _ List.mem_cons_self
            · exact k1 u hu
          · rcases e5 u hu with e | ⟨x, hx, e⟩
            · rw [e]; exact hb
            · rw [← e]; exact h3 x hx
        · rw [co_cons, e4]
          unfold upd
          rw [co_cons]
          by_cases hv : v = w
          · subst hv; rw [if_neg hne]; simp
          · simp only [hv, if_false]
        · intro u hu
          rcases List.mem_cons.1 hu with rfl | hu
          · exact .inr ⟨u, List.mem_cons_self, rfl⟩
          · rcases e5 u hu with e | ⟨x, hx, e⟩
            · exact .inl e
            · exact .inr ⟨x, List.mem_cons_of_mem _ hx, e⟩
    · by_cases he : t.1 = w
      · rw [co_cons, if_pos he]
        cases hs : add t.2 a with
        | none =>
          left
          exact ⟨by simp only [put, hb, he, if_true, hs]; simp [bef_irrefl, hs], rfl⟩
        | some s =>
          right
          have hfs := add_fr hs
          refine ⟨if s.1 = 0 then r else (w, s) :: r, s, by simp only [put]; rw [if_neg hb, if_pos he, hs]; rfl, rfl, ?_, fun v => ?_, ?_⟩
          · by_cases h0 : s.1 = 0
            · rw [if_pos h0]; exact hr
            · rw [if_neg h0]
              refine isTs_iff.2 ⟨fun u hu => ?_, List.pairwise_cons.2 ⟨fun u hu => ?_, h4⟩⟩
              · rcases List.mem_cons.1 hu with rfl | hu
                · exact isTm_mk hw hn hfs h0
                · exact h1 u (List.mem_cons_of_mem _ hu)
              · have := h3 u hu; rw [he] at this; exact this
          · unfold upd
            have hnr : co r w = (0, 1) := co_none fun u hu e => by have := h3 u hu; rw [he, e, bef_irrefl] at this; cases this
            by_cases h0 : s.1 = 0
            · rw [if_pos h0, co_cons, he]
              by_cases hv : v = w
              · subst hv; rw [if_pos rfl, hnr, fr_num0 hfs h0]
              · rw [if_neg hv, if_neg (fun e => hv e.symm)]
            · rw [if_neg h0, co_cons, co_cons, he]
              by_cases hv : v = w
              · subst hv; simp
              · rw [if_neg hv, if_neg (fun e => hv e.symm), if_neg (fun e => hv e.symm)]
          · intro u hu
            by_cases h0 : s.1 = 0
            · rw [if_pos h0] at hu; exact .inr ⟨u, List.mem_cons_of_mem _ hu, rfl⟩
            · rw [if_neg h0] at hu
              rcases List.mem_cons.1 hu with rfl | hu
              · exact .inl rfl
              · exact .inr ⟨u, List.mem_cons_of_mem _ hu, rfl⟩
      · right
        have hlt : bef w t.1 = true := by
          cases hh : bef w t.1 with
          | true => rfl
          | false => exact absurd (bef_tri (by simpa using hb) hh) he
        have hall : ∀ u ∈ t :: r, bef w u.1 = true := fun u hu => by
          rcases List.mem_cons.1 hu with rfl | hu
          · exact hlt
          · exact bef_trans hlt (h3 u hu)
        have hz : co (t :: r) w = (0, 1) := co_none fun u hu e => by have := hall u hu; rw [e, bef_irrefl] at this; cases this
        rw [hz, add_zero_left ha]
        refine ⟨if a.1 = 0 then t :: r else (w, a) :: t :: r, a, by simp only [put]; rw [if_neg hb, if_neg he], rfl, ?_, fun v => ?_, ?_⟩
        · by_cases h0 : a.1 = 0
          · rw [if_pos h0]; exact h
          · rw [if_neg h0]
            refine isTs_iff.2 ⟨fun u hu => ?_, List.pairwise_cons.2 ⟨hall, h2⟩⟩
            rcases List.mem_cons.1 hu with rfl | hu
            · exact isTm_mk hw hn ha h0
            · exact h1 u hu
        · unfold upd
          by_cases h0 : a.1 = 0
          · rw [if_pos h0]
            by_cases hv : v = w
            · subst hv; rw [if_pos rfl, hz, fr_num0 ha h0]
            · rw [if_neg hv]
          · rw [if_neg h0, co_cons (w, a)]
            simp only [eq_comm]
        · intro u hu
          by_cases h0 : a.1 = 0
          · rw [if_pos h0] at hu; exact .inr ⟨u, hu, rfl⟩
          · rw [if_neg h0] at hu
            rcases List.mem_cons.1 hu with rfl | hu
            · exact .inl rfl
            · exact .inr ⟨u, hu, rfl⟩
end Go.Proofs.Ytibjkjhpfmmjoaa.M

/- Which sizes and rows of terms make a series. Conditions: none. -/
namespace Go.Proofs.Ytibjkjhpfmmjoaa.M
def lev (d n : Int) : Bool := inR d 1 3 && (inR n 1 5 && (decide (d < 3) || decide (n ≤ 4)))
theorem lev_iff {d n : Int} : lev d n = true ↔ (1 ≤ d ∧ d ≤ 3) ∧ (1 ≤ n ∧ n ≤ 5) ∧ (d < 3 ∨ n ≤ 4) := by simp [lev, inR]
def isS (d n : Int) (l : Ts) : Bool := lev d n && isTs d.toNat n.toNat l
def bnd (l : Ts) : Bool := decide (l.length ≤ 1048576) && l.all fun t => decide (t.1.size ≤ 1048576)
theorem bnd_iff {l : Ts} : bnd l = true ↔ l.length ≤ 1048576 ∧ ∀ t ∈ l, t.1.size ≤ 1048576 := by simp [bnd]
end Go.Proofs.Ytibjkjhpfmmjoaa.M

namespace Go.Proofs.Ytibjkjhpfmmjoaa.M
set_option linter.unusedVariables false
set_option linter.unusedSimpArgs false

def sh : List UInt8 → List UInt8 → List UInt8 → Nat
  | v, w, [] => if v.isEmpty && w.isEmpty then 1 else 0
  | v, w, c :: u => (match v with | a :: v' => if a = c then sh v' w u else 0 | [] => 0) + (match w with | b :: w' => if b = c then sh v w' u else 0 | [] => 0)
theorem sh_nil (v w : List UInt8) : sh v w [] = if v.isEmpty && w.isEmpty then 1 else 0 := by unfold sh; rfl
theorem sh_cons (v w : List UInt8) (c : UInt8) (u : List UInt8) : sh v w (c :: u) = (match v with | a :: v' => if a = c then sh v' w u else 0 | [] => 0) + (match w with | b :: w' => if b = c then sh v w' u else 0 | [] => 0) := by conv => lhs; unfold sh
theorem sh_len : ∀ (u v w : List UInt8), v.length + w.length ≠ u.length → sh v w u = 0
  | [], v, w, h => by
    rw [sh_nil]
    cases v <;> cases w <;> simp_all
  | c :: u, v, w, h => by
    rw [sh_cons]
    have h1 : (match v with | a :: v' => if a = c then sh v' w u else 0 | [] => 0) = 0 := by
      cases v with
      | nil => rfl
      | cons a v' =>
        simp only
        split
        · exact sh_len u v' w (by simp at h ⊢; omega)
        · rfl
    have h2 : (match w with | b :: w' => if b = c then sh v w' u else 0 | [] => 0) = 0 := by
      cases w with
      | nil => rfl
      | cons b w' =>
        simp only
        split
        · exact sh_len u v w' (by simp at h ⊢; omega)
        · rfl
    rw [h1, h2]
theorem sh_le : ∀ (u v w : List UInt8), sh v w u ≤ 2 ^ u.length
  | [], v, w => by rw [sh_nil]; split <;> simp
  | c :: u, v, w => by
    rw [sh_cons, List.length_cons, Nat.pow_succ]
    have h1 : (match v with | a :: v' => if a = c then sh v' w u else 0 | [] => 0) ≤ 2 ^ u.length := by
      cases v with
      | nil => exact Nat.zero_le _
      | cons a v' =>
        simp only
        split
        · exact sh_le u v' w
        · exact Nat.zero_le _
    have h2 : (match w with | b :: w' => if b = c then sh v w' u else 0 | [] => 0) ≤ 2 ^ u.length := by
      cases w with
      | nil => exact Nat.zero_le _
      | cons b w' =>
        simp only
        split
        · exact sh_le u v w'
        · exact Nat.zero_le _
    omega
theorem sh_comm : ∀ (u v w : List UInt8), sh v w u = sh w v u
  | [], v, w => by rw [sh_nil, sh_nil, Bool.and_comm]
  | c :: u, v, w => by
    rw [sh_cons, sh_cons, Nat.add_comm]
    congr 1
    · cases w with
      | nil => rfl
      | cons b w' => simp only [sh_comm u v w']
    · cases v with
      | nil => rfl
      | cons a v' => simp only [sh_comm u v' w]
def hsh : List UInt8 → List UInt8 → List UInt8 → Nat
  | a :: v, w, c :: u => if a = c then sh v w u else 0
  | _, _, _ => 0
theorem sh_halves {v w u : List UInt8} (h : u ≠ []) : sh v w u = hsh v w u + hsh w v u := by
  cases u with
  | nil => exact absurd rfl h
  | cons c u =>
    rw [sh_cons]
    congr 1
    · cases v <;> rfl
    · cases w with
      | nil => rfl
      | cons b w' => simp only [hsh, sh_comm u v w']

/-! ### rows -/
def stepI (v w : List UInt8) (c : UInt8) (k : Nat) (ways next : List Int) (i : Nat) : List Int :=
  let n := ways.getD i 0
  let next1 := if i < v.length ∧ c = v.getD i 0 then next.set (i + 1) (next.getD (i + 1) 0 + n) else next
  if i ≤ k ∧ k - i < w.length ∧ c = w.getD (k - i) 0 then next1.set i (next1.getD i 0 + n) else next1
def innerI (v w : List UInt8) (c : UInt8) (k : Nat) (ways : List Int) : Nat → List Int
  | 0 => List.replicate (v.length + 1) 0
  | i + 1 => stepI v w c k ways (innerI v w c k ways i) i
def rowI (v w u : List UInt8) : Nat → List Int
  | 0 => (List.replicate (v.length + 1) 0).set 0 1
  | k + 1 => innerI v w (u.getD k 0) k (rowI v w u k) (v.length + 1)
theorem stepI_ff {v w : List UInt8} {c : UInt8} {k : Nat} {ways next : List Int} {i : Nat} (hA : ¬ (i < v.length ∧ c = v.getD i 0)) (hB : ¬ (i ≤ k ∧ k - i < w.length ∧ c = w.getD (k - i) 0)) : stepI v w c k ways next i = next := by
  unfold stepI; simp only; rw [if_neg hB, if_neg hA]
theorem stepI_tf {v w : List UInt8} {c : UInt8} {k : Nat} {ways next : List Int} {i : Nat} (hA : i < v.length ∧ c = v.getD i 0) (hB : ¬ (i ≤ k ∧ k - i < w.length ∧ c = w.getD (k - i) 0)) : stepI v w c k ways next i = next.set (i + 1) (next.getD (i + 1) 0 + ways.getD i 0) := by
  unfold stepI; simp only; rw [if_neg hB, if_pos hA]
theorem stepI_ft {v w : List UInt8} {c : UInt8} {k : Nat} {ways next : List Int} {i : Nat} (hA : ¬ (i < v.length ∧ c = v.getD i 0)) (hB : i ≤ k ∧ k - i < w.length ∧ c = w.getD (k - i) 0) : stepI v w c k ways next i = next.set i (next.getD i 0 + ways.getD i 0) := by
  unfold stepI; simp only; rw [if_pos hB, if_neg hA]
theorem stepI_tt {v w : List UInt8} {c : UInt8} {k : Nat} {ways next : List Int} {i : Nat} (hA : i < v.length ∧ c = v.getD i 0) (hB : i ≤ k ∧ k - i < w.length ∧ c = w.getD (k - i) 0) : stepI v w c k ways next i = (next.set (i + 1) (next.getD (i + 1) 0 + ways.getD i 0)).set i (next.getD i 0 + ways.getD i 0) := by
  have e : (next.set (i + 1) (next.getD (i + 1) 0 + ways.getD i 0)).getD i 0 = next.getD i 0 := by
    rw [List.getD_eq_getElem?_getD, List.getElem?_set, if_neg (by omega), List.getD_eq_getElem?_getD]
  unfold stepI; simp only; rw [if_pos hB, if_pos hA, e]
theorem stepI_length (v w : List UInt8) (c : UInt8) (k : Nat) (ways next : List Int) (i : Nat) : (stepI v w c k ways next i).length = next.length := by
  unfold stepI; simp only; split <;> split <;> simp
theorem innerI_length (v w : List UInt8) (c : UInt8) (k : Nat) (ways : List Int) : ∀ i, (innerI v w c k ways i).length = v.length + 1
  | 0 => by simp [innerI]
  | i + 1 => by rw [innerI, stepI_length]; exact innerI_length v w c k ways i
theorem rowI_length (v w u : List UInt8) (k : Nat) : (rowI v w u k).length = v.length + 1 := by
  cases k with
  | zero => simp [rowI]
  | succ k => exact innerI_length _ _ _ _ _ _
theorem getD_set (l : List Int) (a j : Nat) (x : Int) : (l.set a x).getD j 0 = if j = a ∧ a < l.length then x else l.getD j 0 := by
  rw [List.getD_eq_getElem?_getD, List.getElem?_set, List.getD_eq_getElem?_getD]
  by_cases h : a = j
  · subst h
    by_cases h2 : a < l.length
    · simp [h2]
    · simp [h2]
  · rw [if_neg h, if_neg (fun e => h e.1.symm)]
def termA (v : List UInt8) (c : UInt8) (ways : List Int) (i : Nat) : Int := if i < v.length ∧ c = v.getD i 0 then ways.getD i 0 else 0
def termB (w : List UInt8) (c : UInt8) (k : Nat) (ways : List Int) (i : Nat) : Int := if i ≤ k ∧ k - i < w.length ∧ c = w.getD (k - i) 0 then ways.getD i 0 else 0
theorem innerI_at (v w : List UInt8) (c : UInt8) (k : Nat) (ways : List Int) : ∀ i, i ≤ v.length + 1 → ∀ j, j ≤ v.length →
    (innerI v w c k ways i).getD j 0 = (if 1 ≤ j ∧ j - 1 < i then termA v c ways (j - 1) else 0) + (if j < i then termB w c k ways j else 0)
  | 0, _, j, hj => by
    rw [innerI, List.getD_eq_getElem?_getD, List.getElem?_replicate]
    split <;> simp
  | i + 1, hi, j, hj => by
    have ih := innerI_at v w c k ways i (by omega)
    have hl := innerI_length v w c k ways i
    have h1 : ∀ j, j ≤ v.length → (if i < v.length ∧ c = v.getD i 0 then (innerI v w c k ways i).set (i + 1) ((innerI v w c k ways i).getD (i + 1) 0 + ways.getD i 0) else innerI v w c k ways i).getD j 0 = (if 1 ≤ j ∧ j - 1 < i + 1 then termA v c ways (j - 1) else 0) + (if j < i then termB w c k ways j else 0) := by
      intro j hj
      by_cases hA : i < v.length ∧ c = v.getD i 0
      · rw [if_pos hA, getD_set, hl]
        by_cases hji : j = i + 1
        · subst hji
          rw [if_pos ⟨rfl, by omega⟩, ih (i + 1) hj, if_neg (by omega), if_neg (by omega), if_pos (by omega), Nat.add_sub_cancel]
          have : termA v c ways i = ways.getD i 0 := if_pos hA
          rw [this]; omega
        · rw [if_neg (fun e => hji e.1), ih j hj]
          have e : (1 ≤ j ∧ j - 1 < i + 1) = (1 ≤ j ∧ j - 1 < i) := by rw [eq_iff_iff]; omega
          simp only [e]
      · rw [if_neg hA, ih j hj]
        by_cases hji : j = i + 1
        · subst hji
          rw [if_neg (by omega), if_neg (by omega), if_pos (by omega), Nat.add_sub_cancel]
          have : termA v c ways i = 0 := if_neg hA
          rw [this]
        · have e : (1 ≤ j ∧ j - 1 < i + 1) = (1 ≤ j ∧ j - 1 < i) := by rw [eq_iff_iff]; omega
          simp only [e]
    have hl1 : (if i < v.length ∧ c = v.getD i 0 then (innerI v w c k ways i).set (i + 1) ((innerI v w c k ways i).getD (i + 1) 0 + ways.getD i 0) else innerI v w c k ways i).length = v.length + 1 := by
      split
      · rw [List.length_set, hl]
      · exact hl
    rw [innerI]
    unfold stepI
    simp only
    generalize (if i < v.length ∧ c = v.getD i 0 then (innerI v w c k ways i).set (i + 1) ((innerI v w c k ways i).getD (i + 1) 0 + ways.getD i 0) else innerI v w c k ways i) = N at h1 hl1
    by_cases hB : i ≤ k ∧ k - i < w.length ∧ c = w.getD (k - i) 0
    · rw [if_pos hB, getD_set, hl1]
      by_cases hji : j = i
      · subst hji
        rw [if_pos ⟨rfl, by omega⟩, h1 j hj, if_neg (Nat.lt_irrefl j), if_pos (Nat.lt_succ_self j)]
        have : termB w c k ways j = ways.getD j 0 := if_pos hB
        rw [this]; omega
      · rw [if_neg (fun e => hji e.1), h1 j hj]
        have e : (j < i + 1) = (j < i) := by rw [eq_iff_iff]; omega
        simp only [e]
    · rw [if_neg hB, h1 j hj]
      by_cases hji : j = i
      · subst hji
        rw [if_neg (Nat.lt_irrefl j), if_pos (Nat.lt_succ_self j)]
        have : termB w c k ways j = 0 := if_neg hB
        rw [this]
      · have e : (j < i + 1) = (j < i) := by rw [eq_iff_iff]; omega
        simp only [e]
theorem rowI_at (v w u : List UInt8) (k j : Nat) (hj : j ≤ v.length) : (rowI v w u (k + 1)).getD j 0 = (if 1 ≤ j then termA v (u.getD k 0) (rowI v w u k) (j - 1) else 0) + termB w (u.getD k 0) k (rowI v w u k) j := by
  rw [rowI, innerI_at _ _ _ _ _ _ (Nat.le_refl _) j hj, if_pos (show j < v.length + 1 by omega)]
  have e : (1 ≤ j ∧ j - 1 < v.length + 1) = (1 ≤ j) := by rw [eq_iff_iff]; omega
  simp only [e]
theorem rowI_bound (v w u : List UInt8) : ∀ k j, 0 ≤ (rowI v w u k).getD j 0 ∧ (rowI v w u k).getD j 0 ≤ 2 ^ k ∧ (k < j → (rowI v w u k).getD j 0 = 0)
  | 0, j => by
    rw [rowI, getD_set]
    have : (List.replicate (v.length + 1) (0 : Int)).getD j 0 = 0 := by
      rw [List.getD_eq_getElem?_getD, List.getElem?_replicate]; split <;> rfl
    rw [this]
    split <;> simp <;> omega
  | k + 1, j => by
    have ih := rowI_bound v w u k
    by_cases hj : j ≤ v.length
    · rw [rowI_at v w u k j hj]
      have hA : 0 ≤ (if 1 ≤ j then termA v (u.getD k 0) (rowI v w u k) (j - 1) else 0) ∧ (if 1 ≤ j then termA v (u.getD k 0) (rowI v w u k) (j - 1) else 0) ≤ 2 ^ k ∧ (k + 1 < j → (if 1 ≤ j then termA v (u.getD k 0) (rowI v w u k) (j - 1) else 0) = 0) := by
        have hp : (0 : Int) ≤ 2 ^ k := by have := (ih 0).1; have := (ih 0).2.1; omega
        unfold termA
        obtain ⟨i1, i2, i3⟩ := ih (j - 1)
        refine ⟨?_, ?_, fun hk => ?_⟩
        · split <;> (try split) <;> omega
        · split <;> (try split) <;> omega
        · have := i3 (by omega); split <;> (try split) <;> omega
      have hB : 0 ≤ termB w (u.getD k 0) k (rowI v w u k) j ∧ termB w (u.getD k 0) k (rowI v w u k) j ≤ 2 ^ k ∧ (k + 1 < j → termB w (u.getD k 0) k (rowI v w u k) j = 0) := by
        have hp : (0 : Int) ≤ 2 ^ k := by have := (ih 0).1; have := (ih 0).2.1; omega
        unfold termB
        obtain ⟨i1, i2, i3⟩ := ih j
        refine ⟨?_, ?_, fun hk => ?_⟩
        · split <;> omega
        · split <;> omega
        · have := i3 (by omega); split <;> omega
      rw [Int.pow_succ]
      obtain ⟨a1, a2, a3⟩ := hA
      obtain ⟨b1, b2, b3⟩ := hB
      refine ⟨by omega, by omega, fun hk => ?_⟩
      rw [a3 hk, b3 hk]; rfl
    · have hz : (rowI v w u (k + 1)).getD j 0 = 0 := by
        rw [List.getD_eq_getElem?_getD, List.getElem?_eq_none (by rw [rowI_length]; omega)]; rfl
      rw [hz]
      have hp : (0 : Int) ≤ 2 ^ k := by have := (ih 0).1; have := (ih 0).2.1; omega
      rw [Int.pow_succ]
      exact ⟨Int.le_refl _, by omega, fun _ => rfl⟩
theorem innerI_bound (v w u : List UInt8) (c : UInt8) (k i j : Nat) (hi : i ≤ v.length + 1) : 0 ≤ (innerI v w c k (rowI v w u k) i).getD j 0 ∧ (innerI v w c k (rowI v w u k) i).getD j 0 ≤ 2 ^ k + 2 ^ k := by
  have hb := rowI_bound v w u k
  by_cases hj : j ≤ v.length
  · rw [innerI_at v w c k _ i hi j hj]
    obtain ⟨a1, a2, _⟩ := hb (j - 1)
    obtain ⟨b1, b2, _⟩ := hb j
    unfold termA termB
    constructor
    · split <;> split <;> (try split) <;> (try split) <;> omega
    · split <;> split <;> (try split) <;> (try split) <;> omega
  · have hz : (innerI v w c k (rowI v w u k) i).getD j 0 = 0 := by
      rw [List.getD_eq_getElem?_getD, List.getElem?_eq_none (by rw [innerI_length]; omega)]; rfl
    rw [hz]; obtain ⟨b1, b2, _⟩ := hb j; omega
theorem pow_le16 {k : Nat} (h : k ≤ 16) : (2 : Int) ^ k ≤ 65536 := by
  have : 2 ^ k ≤ 2 ^ 16 := Nat.pow_le_pow_right (by omega) h
  have e : ((2 ^ k : Nat) : Int) = (2 : Int) ^ k := by rw [Int.natCast_pow]; rfl
  omega
/-! ### the sum over a row stays -/
def sumTo (g : Nat → Int) : Nat → Int
  | 0 => 0
  | n + 1 => sumTo g n + g n
theorem sumTo_congr {g h : Nat → Int} : ∀ {n}, (∀ i, i < n → g i = h i) → sumTo g n = sumTo h n
  | 0, _ => rfl
  | n + 1, hh => by rw [sumTo, sumTo, sumTo_congr (fun i hi => hh i (by omega)), hh n (by omega)]
theorem sumTo_add (g h : Nat → Int) : ∀ n, sumTo (fun i => g i + h i) n = sumTo g n + sumTo h n
  | 0 => rfl
  | n + 1 => by rw [sumTo, sumTo, sumTo, sumTo_add g h n]; omega
theorem sumTo_shift (g : Nat → Int) : ∀ n, sumTo (fun j => if 1 ≤ j then g (j - 1) else 0) (n + 1) = sumTo g n
  | 0 => rfl
  | n + 1 => by
    rw [sumTo, sumTo_shift g n, sumTo, if_pos (by omega), Nat.add_sub_cancel]
theorem sumTo_zero {g : Nat → Int} : ∀ {n}, (∀ i, i < n → g i = 0) → sumTo g n = 0
  | 0, _ => rfl
  | n + 1, h => by rw [sumTo, sumTo_zero (fun i hi => h i (by omega)), h n (by omega)]; rfl
theorem drop_getD {l : List UInt8} {i : Nat} (h : i < l.length) : l.drop i = l.getD i 0 :: l.drop (i + 1) := by
  rw [List.drop_eq_getElem_cons h, List.getD_eq_getElem?_getD, List.getElem?_eq_getElem h]; rfl
theorem row_sum (v w u : List UInt8) : ∀ k, k ≤ u.length → sumTo (fun i => (rowI v w u k).getD i 0 * (sh (v.drop i) (w.drop (k - i)) (u.drop k) : Nat)) (v.length + 1) = (sh v w u : Nat)
  | 0, _ => by
    have h : sumTo (fun i => (rowI v w u 0).getD i 0 * (sh (v.drop i) (w.drop (0 - i)) (u.drop 0) : Nat)) (v.length + 1) = sumTo (fun i => if 1 ≤ i then 0 else ((sh v w u : Nat) : Int)) (v.length + 1) := by
      refine sumTo_congr fun i hi => ?_
      rw [rowI, getD_set]
      have hz : (List.replicate (v.length + 1) (0 : Int)).getD i 0 = 0 := by
        rw [List.getD_eq_getElem?_getD, List.getElem?_replicate]; split <;> rfl
      rw [hz]
      by_cases h0 : i = 0
      · subst h0; simp
      · rw [if_neg (fun e => h0 e.1), if_pos (by omega), Int.zero_mul]
    rw [h]
    have h2 : ∀ n, sumTo (fun i => if 1 ≤ i then 0 else ((sh v w u : Nat) : Int)) (n + 1) = (sh v w u : Nat) := by
      intro n
      induction n with
      | zero => simp [sumTo]
      | succ n ih => rw [sumTo, ih, if_pos (by omega), Int.add_zero]
    exact h2 _
  | k + 1, hk => by
    have ih := row_sum v w u k (by omega)
    rw [← ih]
    have hu := drop_getD (l := u) (i := k) (by omega)
    have hb := rowI_bound v w u k
    have e1 : sumTo (fun i => (rowI v w u (k + 1)).getD i 0 * (sh (v.drop i) (w.drop (k + 1 - i)) (u.drop (k + 1)) : Nat)) (v.length + 1)
        = sumTo (fun j => (if 1 ≤ j then (fun i => termA v (u.getD k 0) (rowI v w u k) i * (sh (v.drop (i + 1)) (w.drop (k - i)) (u.drop (k + 1)) : Nat)) (j - 1) else 0) + termB w (u.getD k 0) k (rowI v w u k) j * (sh (v.drop j) (w.drop (k + 1 - j)) (u.drop (k + 1)) : Nat)) (v.length + 1) := by
      refine sumTo_congr fun j hj => ?_
      rw [rowI_at v w u k j (by omega), Int.add_mul]
      congr 1
      by_cases h1 : 1 ≤ j
      · rw [if_pos h1, if_pos h1]
        have : j - 1 + 1 = j := by omega
        have h2 : k - (j - 1) = k + 1 - j := by omega
        simp only [this, h2]
      · rw [if_neg h1, if_neg h1, Int.zero_mul]
    rw [e1, sumTo_add, sumTo_shift (fun i => termA v (u.getD k 0) (rowI v w u k) i * (sh (v.drop (i + 1)) (w.drop (k - i)) (u.drop (k + 1)) : Nat))]
    have e2 : sumTo (fun i => termA v (u.getD k 0) (rowI v w u k) i * (sh (v.drop (i + 1)) (w.drop (k - i)) (u.drop (k + 1)) : Nat)) v.length
        = sumTo (fun i => termA v (u.getD k 0) (rowI v w u k) i * (sh (v.drop (i + 1)) (w.drop (k - i)) (u.drop (k + 1)) : Nat)) (v.length + 1) := by
      rw [sumTo]
      have : termA v (u.getD k 0) (rowI v w u k) v.length = 0 := if_neg (by omega)
      rw [this, Int.zero_mul, Int.add_zero]
    rw [e2, ← sumTo_add]
    refine sumTo_congr fun i hi => ?_
    obtain ⟨_, _, hb3⟩ := hb i
    by_cases hik : i ≤ k
    · rw [hu, sh_cons]
      generalize hR : (rowI v w u k).getD i 0 = R
      have tA : termA v (u.getD k 0) (rowI v w u k) i * ((sh (v.drop (i + 1)) (w.drop (k - i)) (u.drop (k + 1)) : Nat) : Int) = R * ((match v.drop i with | a :: v' => if a = u.getD k 0 then sh v' (w.drop (k - i)) (u.drop (k + 1)) else 0 | [] => 0 : Nat) : Int) := by
        unfold termA
        by_cases hiv : i < v.length
        · rw [drop_getD hiv]
          simp only
          by_cases hc : u.getD k 0 = v.getD i 0
          · rw [if_pos ⟨hiv, hc⟩, if_pos hc.symm, hR]
          · rw [if_neg (fun e => hc e.2), if_neg (fun e => hc e.symm)]; simp
        · have e0 : v.drop i = [] := List.drop_of_length_le (by omega)
          rw [if_neg (fun e => hiv e.1), e0]; simp
      have tB : termB w (u.getD k 0) k (rowI v w u k) i * ((sh (v.drop i) (w.drop (k + 1 - i)) (u.drop (k + 1)) : Nat) : Int) = R * ((match w.drop (k - i) with | b :: w' => if b = u.getD k 0 then sh (v.drop i) w' (u.drop (k + 1)) else 0 | [] => 0 : Nat) : Int) := by
        unfold termB
        by_cases hiw : k - i < w.length
        · rw [drop_getD hiw]
          have e : k - i + 1 = k + 1 - i := by omega
          simp only [e]
          by_cases hc : u.getD k 0 = w.getD (k - i) 0
          · rw [if_pos ⟨hik, hiw, hc⟩, if_pos hc.symm, hR]
          · rw [if_neg (fun e => hc e.2.2), if_neg (fun e => hc e.symm)]; simp
        · have e0 : w.drop (k - i) = [] := List.drop_of_length_le (by omega)
          rw [if_neg (fun e => hiw e.2.1), e0]; simp
      rw [tA, tB, Int.natCast_add, Int.mul_add]
    · have hz := hb3 (by omega)
      unfold termA termB
      rw [hz]; simp
theorem row_last (v w u : List UInt8) (h : v.length + w.length = u.length) : (rowI v w u u.length).getD v.length 0 = (sh v w u : Nat) := by
  have hs := row_sum v w u u.length (Nat.le_refl _)
  rw [sumTo] at hs
  have h0 : sumTo (fun i => (rowI v w u u.length).getD i 0 * (sh (v.drop i) (w.drop (u.length - i)) (u.drop u.length) : Nat)) v.length = 0 := by
    refine sumTo_zero fun i hi => ?_
    rw [List.drop_of_length_le (Nat.le_refl u.length), sh_nil, drop_getD hi]
    simp
  rw [h0, Int.zero_add] at hs
  rw [← hs, List.drop_of_length_le (Nat.le_refl u.length), sh_nil, List.drop_of_length_le (Nat.le_refl v.length), List.drop_of_length_le (show w.length ≤ u.length - v.length by omega)]
  simp
end Go.Proofs.Ytibjkjhpfmmjoaa.M

namespace Go.Proofs.Ytibjkjhpfmmjoaa.M
set_option linter.unusedVariables false
set_option linter.unusedSimpArgs false
/-! ### numbers of words -/
def valL (d : Nat) (l : List UInt8) : Nat := l.foldl (fun v c => v * d + (c.toNat - 48)) 0
def ahead (d : Nat) : Nat → Nat
  | 0 => 0
  | k + 1 => ahead d k + d ^ k
def num (d : Nat) (s : ByteArray) : Nat := ahead d s.size + valL d (bl s)
def allU (d k : Nat) : List ByteArray := (List.range k).flatMap (wordsN d)
def allW (d n : Nat) : List ByteArray := allU d (n + 1)
theorem allU_zero (d : Nat) : allU d 0 = [] := rfl
theorem allU_succ (d k : Nat) : allU d (k + 1) = allU d k ++ wordsN d k := by
  unfold allU; rw [List.range_succ, List.flatMap_append]; simp
theorem allU_length (d k : Nat) : (allU d k).length = ahead d k := by
  induction k with
  | zero => rfl
  | succ k ih => rw [allU_succ, List.length_append, ih, wordsN_length, ahead]
theorem valL_snoc (d : Nat) (l : List UInt8) (c : UInt8) : valL d (l ++ [c]) = valL d l * d + (c.toNat - 48) := by
  unfold valL; rw [List.foldl_append]; rfl
theorem isWL_append (d : Nat) (a b : List UInt8) : isWL d (a ++ b) = (isWL d a && isWL d b) := by unfold isWL; rw [List.all_append]
theorem isWL_one {d : Nat} {c : UInt8} : isWL d [c] = true ↔ 48 ≤ c.toNat ∧ c.toNat < 48 + d := by simp [isWL]
theorem snoc_of {l : List UInt8} {n : Nat} (h : l.length = n + 1) : ∃ m c, l = m ++ [c] ∧ m.length = n := by
  rcases List.eq_nil_or_concat l with e | ⟨m, c, e⟩
  · rw [e] at h; cases h
  · refine ⟨m, c, by rw [e, List.concat_eq_append], ?_⟩
    rw [e, List.concat_eq_append, List.length_append] at h; simpa using h
theorem valL_lt {d : Nat} : ∀ {n : Nat} {l : List UInt8}, l.length = n → isWL d l = true → valL d l < d ^ n
  | 0, l, h, _ => by obtain rfl := List.eq_nil_of_length_eq_zero h; simp [valL]
  | n + 1, l, h, hw => by
    obtain ⟨m, c, rfl, hm⟩ := snoc_of h
    rw [isWL_append, Bool.and_eq_true, isWL_one] at hw
    have ih := valL_lt hm hw.1
    rw [valL_snoc, Nat.pow_succ]
    have h1 : valL d m * d + d ≤ d ^ n * d := by
      have : (valL d m + 1) * d ≤ d ^ n * d := Nat.mul_le_mul_right d ih
      rwa [Nat.add_mul, Nat.one_mul] at this
    omega
theorem flatMap_get {α β : Type} (g : α → List β) (m : Nat) (hg : ∀ a, (g a).length = m) : ∀ (l : List α) (i j : Nat), j < m → (l.flatMap g)[i * m + j]? = (l[i]?).bind fun a => (g a)[j]?
  | [], i, j, h => by simp
  | a :: l, 0, j, h => by
    rw [List.flatMap_cons, Nat.zero_mul, Nat.zero_add, List.getElem?_append_left (by rw [hg]; exact h)]; rfl
  | a :: l, i + 1, j, h => by
    rw [List.flatMap_cons, List.getElem?_append_right (by rw [hg, Nat.succ_mul]; omega), hg]
    have e : (i + 1) * m + j - m = i * m + j := by rw [Nat.succ_mul]; omega
    rw [e, flatMap_get g m hg l i j h]; simp
theorem bl_snoc {s : ByteArray} {m : List UInt8} {q : Nat} (h : bl s = m ++ [(48 + q).toUInt8]) : s = (⟨m.toArray⟩ : ByteArray) ++ letter q := by
  apply bl_ext; rw [bl_append, bl_letter, h]; rfl
theorem digit_of {c : UInt8} {d : Nat} (h : 48 ≤ c.toNat ∧ c.toNat < 48 + d) : c = (48 + (c.toNat - 48)).toUInt8 := by
  have e : 48 + (c.toNat - 48) = c.toNat := by omega
  rw [e]; apply UInt8.toNat_inj.1; simp
theorem wordsN_get {d : Nat} : ∀ {n : Nat} {s : ByteArray}, s.size = n → isWd d s = true → (wordsN d n)[valL d (bl s)]? = some s
  | 0, s, h, _ => by
    have e : bl s = [] := List.eq_nil_of_length_eq_zero (by rw [bl_len, h])
    have e2 : s = ⟨#[]⟩ := bl_ext (by rw [e]; rfl)
    subst e2; rfl
  | n + 1, s, h, hw => by
    obtain ⟨m, c, e, hm⟩ := snoc_of (l := bl s) (n := n) (by rw [bl_len, h])
    have hw' : isWL d (bl s) = true := hw
    rw [e, isWL_append, Bool.and_eq_true, isWL_one] at hw'
    have ih := wordsN_get (d := d) (n := n) (s := ⟨m.toArray⟩) (by rw [← bl_len]; exact hm) hw'.1
    have hq : c.toNat - 48 < d := by omega
    have hc := digit_of hw'.2
    rw [e, valL_snoc, wordsN, nextWords, flatMap_get _ d (by simp) _ _ _ hq]
    have ih' : (wordsN d n)[valL d m]? = some ⟨m.toArray⟩ := ih
    rw [ih']
    simp only [Option.bind_some]
    rw [List.getElem?_map, List.getElem?_range hq]
    simp only [Option.map_some]
    rw [bl_snoc (s := s) (m := m) (q := c.toNat - 48) (by rw [e]; congr 1; rw [← hc])]
theorem ahead_mono (d : Nat) {i j : Nat} (h : i ≤ j) : ahead d i ≤ ahead d j := by
  induction h with
  | refl => exact Nat.le_refl _
  | step _ ih => rw [ahead]; omega
theorem num_lt {d : Nat} {s : ByteArray} {k : Nat} (h : s.size < k) (hw : isWd d s = true) : num d s < ahead d k := by
  have h1 := valL_lt (d := d) (l := bl s) rfl hw
  rw [bl_len] at h1
  have h2 := ahead_mono d (i := s.size + 1) (j := k) h
  rw [ahead] at h2
  unfold num; omega
theorem allU_get {d : Nat} {s : ByteArray} (hw : isWd d s = true) : ∀ {k : Nat}, s.size < k → (allU d k)[num d s]? = some s
  | 0, h => by omega
  | k + 1, h => by
    rw [allU_succ]
    by_cases hk : s.size < k
    · rw [List.getElem?_append_left (by rw [allU_length]; exact num_lt hk hw)]; exact allU_get hw hk
    · obtain rfl : s.size = k := by omega
      rw [List.getElem?_append_right (by rw [allU_length]; unfold num; omega), allU_length]
      have e : num d s - ahead d s.size = valL d (bl s) := by unfold num; omega
      rw [e]; exact wordsN_get rfl hw
theorem wordsN_mem {d : Nat} (hd : d ≤ 9) : ∀ {n : Nat} {s : ByteArray}, s ∈ wordsN d n → s.size = n ∧ isWd d s = true
  | 0, s, h => by
    obtain rfl : s = ⟨#[]⟩ := by simpa [wordsN] using h
    exact ⟨rfl, rfl⟩
  | n + 1, s, h => by
    simp only [wordsN, nextWords, List.mem_flatMap, List.mem_map, List.mem_range] at h
    obtain ⟨t, ht, q, hq, rfl⟩ := h
    obtain ⟨h1, h2⟩ := wordsN_mem hd ht
    refine ⟨by rw [← bl_len, bl_append, List.length_append, bl_len, h1]; rfl, ?_⟩
    unfold isWd
    rw [bl_append, isWL_append, Bool.and_eq_true]
    refine ⟨h2, ?_⟩
    rw [bl_letter, isWL_one, letter_nat (by omega)]; omega
theorem allU_mem {d : Nat} (hd : d ≤ 9) : ∀ {k : Nat} {s : ByteArray}, s ∈ allU d k ↔ isWd d s = true ∧ s.size < k
  | 0, s => by simp [allU_zero]
  | k + 1, s => by
    constructor
    · intro h
      rw [allU_succ, List.mem_append] at h
      rcases h with h | h
      · have := (allU_mem hd).1 h; exact ⟨this.1, by omega⟩
      · have := wordsN_mem hd h; exact ⟨this.2, by omega⟩
    · rintro ⟨h1, h2⟩
      exact List.mem_of_getElem? (allU_get h1 h2)
theorem allW_mem {d n : Nat} (hd : d ≤ 9) {s : ByteArray} : s ∈ allW d n ↔ isWd d s = true ∧ s.size ≤ n := by
  unfold allW; rw [allU_mem hd]; constructor <;> rintro ⟨h1, h2⟩ <;> exact ⟨h1, by omega⟩
theorem allW_get {d n : Nat} {s : ByteArray} (hw : isWd d s = true) (h : s.size ≤ n) : (allW d n)[num d s]? = some s := allU_get hw (by omega)
theorem allW_length (d n : Nat) : (allW d n).length = ahead d (n + 1) := allU_length _ _
theorem num_lt' {d n : Nat} {s : ByteArray} (hw : isWd d s = true) (h : s.size ≤ n) : num d s < (allW d n).length := by
  rw [allW_length]; exact num_lt (by omega) hw
/-! ### all words ascend -/
theorem bless_cons_same (c : UInt8) (x y : List UInt8) : bless (c :: x) (c :: y) = bless x y := by simp [bless, Go.Op.bytesLess]
theorem bless_same (l : List UInt8) (x y : List UInt8) : bless (l ++ x) (l ++ y) = bless x y := by
  induction l with
  | nil => rfl
  | cons c l ih => rw [List.cons_append, List.cons_append, bless_cons_same, ih]
theorem bless_append : ∀ {a b : List UInt8} (x y : List UInt8), a.length = b.length → bless a b = true → bless (a ++ x) (b ++ y) = true
  | [], [], _, _, _, h => by simp [bless, Go.Op.bytesLess] at h
  | [], _ :: _, _, _, h, _ => by cases h
  | _ :: _, [], _, _, h, _ => by cases h
  | a :: p, b :: q, x, y, hl, h => by
    simp only [bless, List.cons_append, Go.Op.bytesLess, Bool.or_eq_true, Bool.and_eq_true, decide_eq_true_eq, beq_iff_eq] at h ⊢
    rcases h with h | ⟨rfl, h⟩
    · exact .inl h
    · exact .inr ⟨rfl, bless_append x y (by simpa using hl) h⟩
theorem bless_digit {i j : Nat} (h : i < j) (hj : j < 10) : bless [(48 + i).toUInt8] [(48 + j).toUInt8] = true := by
  have : (48 + i).toUInt8 < (48 + j).toUInt8 := by rw [UInt8.lt_iff_toNat_lt, letter_nat (by omega), letter_nat hj]; omega
  show (decide ((48 + i).toUInt8 < (48 + j).toUInt8) || _) = true
  rw [decide_eq_true this]; rfl
theorem wordsN_srt {d : Nat} (hd : d ≤ 9) : ∀ n, (wordsN d n).Pairwise fun a b => bef a b = true
  | 0 => by simp [wordsN]
  | n + 1 => by
    rw [wordsN, nextWords, List.pairwise_flatMap]
    constructor
    · intro s hs
      rw [List.pairwise_map]
      refine (List.pairwise_lt_range).imp_of_mem ?_
      intro i j hi hj hij
      rw [List.mem_range] at hi hj
      unfold bef befL
      rw [bl_append, bl_append, if_pos (by simp [bl_letter]), bless_same]
      exact bless_digit hij (by omega)
    · refine (wordsN_srt hd n).imp_of_mem ?_
      intro s t hs ht hst x hx y hy
      obtain ⟨i, hi, rfl⟩ := List.mem_map.1 hx
      obtain ⟨j, hj, rfl⟩ := List.mem_map.1 hy
      have h1 : (bl s).length = (bl t).length := by rw [bl_len, bl_len, (wordsN_mem hd hs).1, (wordsN_mem hd ht).1]
      unfold bef befL at hst ⊢
      rw [if_pos h1] at hst
      rw [bl_append, bl_append, if_pos (by simp [bl_letter, h1])]
      exact bless_append _ _ h1 hst
theorem allU_srt {d : Nat} (hd : d ≤ 9) : ∀ k, (allU d k).Pairwise fun a b => bef a b = true
  | 0 => by simp [allU_zero]
  | k + 1 => by
    rw [allU_succ, List.pairwise_append]
    refine ⟨allU_srt hd k, wordsN_srt hd k, fun a ha b hb => ?_⟩
    have h1 := ((allU_mem hd).1 ha).2
    have h2 := (wordsN_mem hd hb).1
    unfold bef befL
    rw [if_neg (by rw [bl_len, bl_len]; omega), bl_len, bl_len]
    simp; omega
theorem allW_srt {d : Nat} (hd : d ≤ 9) (n : Nat) : (allW d n).Pairwise fun a b => bef a b = true := allU_srt hd _
/-! ### tables -/
def good (f : ByteArray → Fr) : Prop := ∀ w, fr (f w) = true
def tabT (d n : Nat) (f : ByteArray → Fr) : Ts := (allW d n).filterMap fun w => if (f w).1 = 0 then none else some (w, f w)
theorem tabT_mem {d n : Nat} (hd : d ≤ 9) {f : ByteArray → Fr} {t : Tm} : t ∈ tabT d n f ↔ isWd d t.1 = true ∧ t.1.size ≤ n ∧ t.2 = f t.1 ∧ t.2.1 ≠ 0 := by
  unfold tabT
  rw [List.mem_filterMap]
  constructor
  · rintro ⟨w, hw, h⟩
    obtain ⟨h1, h2⟩ := (allW_mem hd).1 hw
    split at h
    · cases h
    · rename_i h0
      injection h with h
      subst h
      exact ⟨h1, h2, rfl, h0⟩
  · rintro ⟨h1, h2, h3, h4⟩
    refine ⟨t.1, (allW_mem hd).2 ⟨h1, h2⟩, ?_⟩
    rw [← h3, if_neg h4]
theorem tabT_is {d n : Nat} (hd : d ≤ 9) {f : ByteArray → Fr} (hf : good f) : isTs d n (tabT d n f) = true := by
  rw [isTs_iff]
  constructor
  · intro t ht
    obtain ⟨h1, h2, h3, h4⟩ := (tabT_mem hd).1 ht
    exact isTm_mk h1 h2 (by rw [h3]; exact hf _) h4
  · unfold Srt tabT
    rw [List.pairwise_filterMap]
    refine (allW_srt hd n).imp ?_
    intro a b hab t ht u hu
    split at ht
    · cases ht
    · split at hu
      · cases hu
      · injection ht with ht; injection hu with hu
        subst ht; subst hu; exact hab
theorem tabT_co {d n : Nat} (hd : d ≤ 9) {f : ByteArray → Fr} (hf : good f) {w : ByteArray} (hw : isWd d w = true) (hn : w.size ≤ n) : co (tabT d n f) w = f w := by
  by_cases h0 : (f w).1 = 0
  · rcases co_zero_or (l := tabT d n f) w with e | ⟨t, ht, e, k⟩
    · rw [e, fr_num0 (hf w) h0]
    · obtain ⟨_, _, h3, h4⟩ := (tabT_mem hd).1 ht
      rw [e] at h3; rw [h3] at h4; exact absurd h0 h4
  · exact co_mem (t := (w, f w)) (isTs_iff.1 (tabT_is hd hf)).2 ((tabT_mem hd).2 ⟨hw, hn, rfl, h0⟩)
theorem co_off {d n : Nat} {l : Ts} (h : isTs d n l = true) {w : ByteArray} (hw : ¬ (isWd d w = true ∧ w.size ≤ n)) : co l w = (0, 1) :=
  co_none fun t ht e => hw (by have := isTm_fr ((isTs_iff.1 h).1 t ht); rw [e] at this; exact ⟨this.2.2.1, this.2.2.2⟩)
theorem eq_tabT {d n : Nat} (hd : d ≤ 9) {l : Ts} {f : ByteArray → Fr} (h : isTs d n l = true) (hf : good f) (hc : ∀ w, isWd d w = true → w.size ≤ n → co l w = f w) : l = tabT d n f :=
  ts_ext h (tabT_is hd hf) fun w => by
    by_cases hw : isWd d w = true ∧ w.size ≤ n
    · rw [hc w hw.1 hw.2, tabT_co hd hf hw.1 hw.2]
    · rw [co_off h hw, co_off (tabT_is hd hf) hw]
theorem good_co {d n : Nat} {l : Ts} (h : isTs d n l = true) : good (co l) := co_fr h
theorem eq_tabT_co {d n : Nat} (hd : d ≤ 9) {l : Ts} (h : isTs d n l = true) : l = tabT d n (co l) := eq_tabT hd h (good_co h) fun _ _ _ => rfl
theorem tabT_length_le (d n : Nat) (f : ByteArray → Fr) : (tabT d n f).length ≤ ahead d (n + 1) := by
  unfold tabT; rw [← allW_length]; exact List.length_filterMap_le _ _
theorem ts_length_le {d n : Nat} (hd : d ≤ 9) {l : Ts} (h : isTs d n l = true) : l.length ≤ ahead d (n + 1) := by
  rw [eq_tabT_co hd h]; exact tabT_length_le _ _ _
theorem good_upd {f : ByteArray → Fr} (hf : good f) {w : ByteArray} {a : Fr} (ha : fr a = true) : good (upd f w a) := fun v => by
  unfold upd; split
  · exact ha
  · exact hf v
theorem good_zero : good fun _ => (0, 1) := fun _ => fr_zero
/-! ### adding to a table, putting into a row: the same -/
def orZ (o : Option Fr) : Fr := o.getD (0, 1)
theorem orZ_fr {o : Option Fr} (h : ∀ c, o = some c → fr c = true) : fr (orZ o) = true := by
  cases o with
  | none => exact fr_zero
  | some c => exact h c rfl
abbrev Tb := (ByteArray → Fr) × Bool
def addT (F : Tb) (u : ByteArray × Option Fr) : Tb := (upd F.1 u.1 (orZ (add (F.1 u.1) (orZ u.2))), F.2 || u.2.isNone || (add (F.1 u.1) (orZ u.2)).isNone)
def putS (l : Ts) (u : ByteArray × Option Fr) : Option Ts := u.2.bind fun a => put l u.1 a
def putsS (l : Ts) (U : List (ByteArray × Option Fr)) : Option Ts := U.foldlM putS l
theorem addT_good {F : Tb} (h : good F.1) {u : ByteArray × Option Fr} (hu : ∀ a, u.2 = some a → fr a = true) : good (addT F u).1 :=
  good_upd h (orZ_fr fun c hc => add_fr hc)
theorem ahead_le {d k : Nat} (hd : d ≤ 3) (hk : k ≤ 8) : ahead d k ≤ 10000 := by
  have : ∀ j, ahead d j ≤ ahead 3 j := fun j => by
    induction j with
    | zero => exact Nat.le_refl _
    | succ j ih => rw [ahead, ahead]; exact Nat.add_le_add ih (Nat.pow_le_pow_left hd j)
  exact Nat.le_trans (this k) (Nat.le_trans (ahead_mono 3 hk) (by decide))
end Go.Proofs.Ytibjkjhpfmmjoaa.M
namespace Go.Proofs.Ytibjkjhpfmmjoaa.M
set_option linter.unusedVariables false
theorem allW_inj {d n : Nat} (hd : d ≤ 9) {i j : Nat} {s : ByteArray} (hi : (allW d n)[i]? = some s) (hj : (allW d n)[j]? = some s) : i = j := by
  have h := allW_srt hd n
  rw [List.pairwise_iff_getElem] at h
  obtain ⟨hi1, hi2⟩ := List.getElem?_eq_some_iff.1 hi
  obtain ⟨hj1, hj2⟩ := List.getElem?_eq_some_iff.1 hj
  rcases Nat.lt_trichotomy i j with h1 | h1 | h1
  · have := h i j hi1 hj1 h1; rw [hi2, hj2, bef_irrefl] at this; cases this
  · exact h1
  · have := h j i hj1 hi1 h1; rw [hi2, hj2, bef_irrefl] at this; cases this
abbrev Rs := Int × Int × Ts × Int
def noS (c : Int) : Rs := (0, 0, [], c)
def toldR (d n : Nat) (F : Tb) : Rs := if F.2 = true then noS 3 else ((d : Int), (n : Int), tabT d n F.1, 0)
def mapS (h : ByteArray → Option Fr) (F : Tb) (s : ByteArray) : Tb := (upd F.1 s (orZ (h s)), F.2 || (h s).isNone)
def mapT (d n : Nat) (h : ByteArray → Option Fr) (bad : Bool) (k : Nat) : Tb := ((allW d n).take k).foldl (mapS h) ((fun _ => (0, 1)), bad)
theorem mapT_succ {d n : Nat} {h : ByteArray → Option Fr} {bad : Bool} {k : Nat} {s : ByteArray} (hs : (allW d n)[k]? = some s) : mapT d n h bad (k + 1) = mapS h (mapT d n h bad k) s := by
  unfold mapT
  rw [List.take_add_one, hs, List.foldl_append]
  rfl
theorem num_at {d n : Nat} (hd : d ≤ 9) {k : Nat} {s : ByteArray} (hs : (allW d n)[k]? = some s) : isWd d s = true ∧ s.size ≤ n ∧ num d s = k := by
  obtain ⟨h1, h2⟩ := (allW_mem hd).1 (List.mem_of_getElem? hs)
  exact ⟨h1, h2, allW_inj hd (allW_get h1 h2) hs⟩
abbrev eps : ByteArray := ⟨#[]⟩
abbrev unitT : Ts := [(eps, 1, 1)]
theorem isS_l {d n : Int} {l : Ts} (h : isS d n l = true) : lev d n = true := by rw [isS, Bool.and_eq_true] at h; exact h.1
theorem isS_t {d n : Int} {l : Ts} (h : isS d n l = true) : isTs d.toNat n.toNat l = true := by rw [isS, Bool.and_eq_true] at h; exact h.2
def resQ (d n : Int) : Option Ts → Int × Int × Ts × Bool
  | none => (0, 0, [], false)
  | some y => (d, n, y, true)
theorem isTs_small {d n : Nat} {l : Ts} (h : isTs d n l = true) : ∀ t ∈ l, small t.2 := fun t ht => fr_small (isTm_fr ((isTs_iff.1 h).1 t ht)).1
theorem isTs_bnd {d n : Nat} (hd : d ≤ 3) (hn : n ≤ 5) {l : Ts} (h : isTs d n l = true) : bnd l = true := by
  have h1 := ts_length_le (by omega) h
  have h2 := ahead_le hd (k := n + 1) (by omega)
  refine bnd_iff.2 ⟨by omega, fun t ht => ?_⟩
  have := (isTm_fr ((isTs_iff.1 h).1 t ht)).2.2.2
  omega
theorem tabT_unit {d n : Nat} (hd : d ≤ 9) : tabT d n (upd (fun _ => (0, 1)) eps (1, 1)) = unitT := by
  have hg : good (upd (fun _ => ((0, 1) : Fr)) eps (1, 1)) := good_upd good_zero (by decide)
  refine (eq_tabT hd ?_ hg ?_).symm
  · rw [isTs_iff]
    refine ⟨fun t ht => ?_, by simp [Srt]⟩
    obtain rfl := List.mem_singleton.1 ht
    exact isTm_mk (by rfl) (Nat.zero_le _) (by decide) (by decide)
  · intro w _ _
    rw [co_cons]
    unfold upd
    by_cases h : w = eps
    · subst h; rfl
    · rw [if_neg (fun e => h e.symm), if_neg h]; rfl
end Go.Proofs.Ytibjkjhpfmmjoaa.M
namespace Go.Proofs.Ytibjkjhpfmmjoaa.M
set_option linter.unusedVariables false
def Rel (d n : Nat) (o : Option Ts) (F : Tb) : Prop := (o = none ∧ F.2 = true) ∨ ∃ l, o = some l ∧ F.2 = false ∧ isTs d n l = true ∧ ∀ w, isWd d w = true → w.size ≤ n → co l w = F.1 w
def resO (d n : Int) : Option Ts → Rs
  | none => noS 3
  | some l => (d, n, l, 0)
theorem Rel.told {d n : Nat} (hd : d ≤ 9) {o : Option Ts} {F : Tb} (hF : good F.1) (h : Rel d n o F) : toldR d n F = resO d n o := by
  unfold toldR
  rcases h with ⟨rfl, h⟩ | ⟨l, rfl, h1, h2, h3⟩
  · rw [if_pos h]; rfl
  · rw [if_neg (by rw [h1]; decide), ← eq_tabT hd h2 hF h3]; rfl
theorem resO_len {d n : Int} {d' n' : Nat} {o : Option Ts} {F : Tb} (hd : d' ≤ 3) (hn : n' ≤ 5) (h : Rel d' n' o F) : (resO d n o).2.2.1.length ≤ 1048576 := by
  rcases h with ⟨rfl, h⟩ | ⟨l, rfl, h1, h2, h3⟩
  · show (0 : Nat) ≤ _; decide
  · have := ts_length_le (by omega) h2
    have := ahead_le hd (k := n' + 1) (by omega)
    show l.length ≤ _
    omega
theorem foldM_next {α β : Type} (g : β → α → Option β) (l : List α) (b : β) {i : Nat} (h : i < l.length) : (l.take (i + 1)).foldlM g b = ((l.take i).foldlM g b).bind fun y => g y l[i] := by
  rw [List.take_add_one, List.getElem?_eq_getElem h, List.foldlM_append]
  show (List.foldlM g b (List.take i l) >>= fun s' => List.foldlM g s' [l[i]]) = _
  cases List.foldlM g b (List.take i l) with
  | none => rfl
  | some y =>
    show List.foldlM g y [l[i]] = g y l[i]
    rw [List.foldlM_cons]
    cases g y l[i] <;> rfl
theorem foldM_none {α β : Type} (g : β → α → Option β) (l : List α) (b : β) (i : Nat) (h : (l.take i).foldlM g b = none) : l.foldlM g b = none := by
  conv => lhs; rw [← List.take_append_drop i l]
  rw [List.foldlM_append, h]
  rfl
theorem maps_all (h : ByteArray → Option Fr) : ∀ (l : List ByteArray) (F : Tb), ((∀ w, w ∈ l → (l.foldl (mapS h) F).1 w = orZ (h w)) ∧ (∀ w, ¬ w ∈ l → (l.foldl (mapS h) F).1 w = F.1 w)) ∧ (l.foldl (mapS h) F).2 = (F.2 || l.any fun s => (h s).isNone)
  | [], F => ⟨⟨fun w hw => (by cases hw), fun w _ => rfl⟩, by simp⟩
  | s :: l, F => by
    obtain ⟨⟨h1, h3⟩, h2⟩ := maps_all h l (mapS h F s)
    have hm : ∀ w, w = s → (mapS h F s).1 w = orZ (h w) := fun w e => by unfold mapS upd; rw [e]; simp
    have hk : ∀ w, w ≠ s → (mapS h F s).1 w = F.1 w := fun w e => by unfold mapS upd; simp [e]
    refine ⟨⟨fun w hw => ?_, fun w hw => ?_⟩, ?_⟩
    · rw [List.foldl_cons]
      by_cases hl : w ∈ l
      · exact h1 w hl
      · rw [h3 w hl]
        rcases List.mem_cons.1 hw with e | e
        · exact hm w e
        · exact absurd e hl
    · rw [List.foldl_cons, h3 w (fun e => hw (List.mem_cons_of_mem _ e)), hk w (fun e => hw (e ▸ List.mem_cons_self))]
    · rw [List.foldl_cons, h2, List.any_cons]; unfold mapS; rw [Bool.or_assoc]
theorem mapT_all {d n : Nat} (hd : d ≤ 9) (h : ByteArray → Option Fr) (bad : Bool) : (∀ w, isWd d w = true → w.size ≤ n → (mapT d n h bad (allW d n).length).1 w = orZ (h w)) ∧ (mapT d n h bad (allW d n).length).2 = (bad || (allW d n).any fun s => (h s).isNone) := by
  obtain ⟨⟨h1, _⟩, h2⟩ := maps_all h (allW d n) ((fun _ => (0, 1)), bad)
  unfold mapT
  rw [List.take_length]
  exact ⟨fun w hw hn => h1 w ((allW_mem hd).2 ⟨hw, hn⟩), h2⟩
theorem mapT_good {d n : Nat} {h : ByteArray → Option Fr} (hh : ∀ s c, h s = some c → fr c = true) (bad : Bool) (k : Nat) : good (mapT d n h bad k).1 := fun w => by
  obtain ⟨⟨h1, h3⟩, _⟩ := maps_all h ((allW d n).take k) ((fun _ => (0, 1)), bad)
  unfold mapT
  by_cases hw : w ∈ (allW d n).take k
  · rw [h1 w hw]; exact orZ_fr (hh w)
  · rw [h3 w hw]; exact fr_zero
theorem rel_map {d n : Nat} (hd : d ≤ 9) {h : ByteArray → Option Fr} {l : Ts} (hl : isTs d n l = true) (hb : ∀ s, isWd d s = true → s.size ≤ n → h s = some (co l s)) : Rel d n (some l) (mapT d n h false (allW d n).length) := by
  obtain ⟨h1, h2⟩ := mapT_all (n := n) hd h false
  refine .inr ⟨l, rfl, ?_, hl, fun w hw hn => ?_⟩
  · rw [h2, Bool.false_or, List.any_eq_false]
    intro s hs
    obtain ⟨g1, g2⟩ := (allW_mem hd).1 hs
    rw [hb s g1 g2]; simp
  · rw [h1 w hw hn, hb w hw hn]; rfl
theorem rel_none {d n : Nat} (hd : d ≤ 9) {h : ByteArray → Option Fr} {s : ByteArray} (hs : isWd d s = true) (hn : s.size ≤ n) (hb : h s = none) (b : Bool) : Rel d n none (mapT d n h b (allW d n).length) := by
  obtain ⟨h1, h2⟩ := mapT_all (n := n) hd h b
  refine .inl ⟨rfl, ?_⟩
  rw [h2, Bool.or_eq_true, List.any_eq_true]
  exact .inr ⟨s, (allW_mem hd).2 ⟨hs, hn⟩, by rw [hb]; rfl⟩
theorem sum_rel {d n : Nat} (hd : d ≤ 9) : ∀ {y x : Ts}, isTs d n x = true → isTs d n y = true → Rel d n (y.foldlM (fun l t => put l t.1 t.2) x) (mapT d n (fun s => add (co x s) (co y s)) false (allW d n).length)
  | [], x, hx, _ => rel_map hd hx fun s _ _ => by rw [co_nil]; exact add_zero_right (co_fr hx s)
  | t :: r, x, hx, hy => by
    obtain ⟨hy1, hy2⟩ := isTs_iff.1 hy
    have hr : isTs d n r = true := isTs_iff.2 ⟨fun u hu => hy1 u (List.mem_cons_of_mem _ hu), (List.pairwise_cons.1 hy2).2⟩
    obtain ⟨z1, z2, z3, z4⟩ := isTm_fr (hy1 t List.mem_cons_self)
    have hrt : co r t.1 = (0, 1) := co_none fun u hu e => bef_ne ((List.pairwise_cons.1 hy2).1 u hu) e.symm
    rw [List.foldlM_cons]
    rcases put_co hx z3 z4 z1 with ⟨e1, e2⟩ | ⟨l', s, e1, e2, e3, e4, _⟩
    · rw [e1]
      exact rel_none hd (h := fun s => add (co x s) (co (t :: r) s)) z3 z4 (by rw [co_cons, if_pos rfl]; exact e2) false
    · rw [e1]
      have ih := sum_rel hd e3 hr
      have hs : fr s = true := add_fr e2
      have : (fun s => add (co l' s) (co r s)) = fun s => add (co x s) (co (t :: r) s) := by
        funext u
        rw [e4, co_cons]
        unfold upd
        by_cases e : u = t.1
        · subst e; rw [if_pos rfl, if_pos rfl, hrt, add_zero_right hs, e2]
        · rw [if_neg e, if_neg (fun h => e h.symm)]
      rw [this] at ih
      exact ih
/-! multiples -/
theorem frac_zero_num {b : Int} (h : 0 < b) : frac 0 b = some (0, 1) := by
  have e : sgd 0 b = b := by
    unfold sgd
    rw [if_neg (by omega), Int.gcd_zero_left]
    omega
  have h1 : rnum 0 b = 0 := by unfold rnum; rw [Int.zero_tdiv]
  have h2 : rden 0 b = 1 := by unfold rden; rw [e, Int.tdiv_self (by omega)]
  have h3 : okN 0 b = true := by unfold okN; rw [h1, h2]; decide
  rw [frac_ok (by omega) h3, h1, h2]
end Go.Proofs.Ytibjkjhpfmmjoaa.M
namespace Go.Proofs.Ytibjkjhpfmmjoaa.M
def putF (l : Ts) (t : Tm) : Option Ts := put l t.1 t.2
def sumS (x y : Ts) : Option Ts := y.foldlM putF x
theorem sum_ts {d n : Nat} : ∀ {y x z : Ts}, isTs d n x = true → (∀ t ∈ y, isTm d n t = true) → y.foldlM putF x = some z → isTs d n z = true
  | [], x, z, hx, _, h => by
    have : x = z := by simpa using h
    rw [← this]; exact hx
  | t :: r, x, z, hx, hy, h => by
    obtain ⟨z1, z2, z3, z4⟩ := isTm_fr (hy t List.mem_cons_self)
    rw [List.foldlM_cons] at h
    unfold putF at h
    rcases put_co hx z3 z4 z1 with ⟨e1, _⟩ | ⟨l', s, e1, _, e3, _, _⟩
    · rw [e1] at h; cases h
    · rw [e1] at h
      exact sum_ts e3 (fun u hu => hy u (List.mem_cons_of_mem _ hu)) h
theorem sum_relS {d n : Nat} (hd : d ≤ 9) {x y : Ts} (hx : isTs d n x = true) (hy : isTs d n y = true) : Rel d n (sumS x y) (mapT d n (fun s => add (co x s) (co y s)) false (allW d n).length) := sum_rel hd hx hy
end Go.Proofs.Ytibjkjhpfmmjoaa.M
namespace Go.Proofs.Ytibjkjhpfmmjoaa.M
set_option linter.unusedVariables false
/-! ### cuts of words -/
/-! ### what a product adds -/
abbrev Us := List (ByteArray × Option Fr)
def onW (d n : Nat) (f g : ByteArray → Fr) : Prop := ∀ w, isWd d w = true → w.size ≤ n → f w = g w
/-! ### rows and tables -/
theorem isTs_nil (d n : Nat) : isTs d n [] = true := isTs_iff.2 ⟨fun _ h => (by cases h), List.Pairwise.nil⟩
theorem rel_use {d n : Nat} {l : Ts} {F : Tb} (h : Rel d n (some l) F) : F.2 = false ∧ isTs d n l = true ∧ onW d n (co l) F.1 := by
  rcases h with ⟨h, _⟩ | ⟨l', h, h1, h2, h3⟩
  · cases h
  · injection h with h
    subst h
    exact ⟨h1, h2, h3⟩
theorem rel_bad {d n : Nat} {F : Tb} (h : Rel d n none F) : F.2 = true := by
  rcases h with ⟨_, h⟩ | ⟨l', h, _⟩
  · exact h
  · cases h
theorem rel_no {d n : Nat} {F : Tb} (h : F.2 = true) : Rel d n none F := .inl ⟨rfl, h⟩
theorem rel_add {d n : Nat} {o : Option Ts} {F : Tb} (h : Rel d n o F) (hF : good F.1) {s : ByteArray} {p : Option Fr} (hs : isWd d s = true) (hn : s.size ≤ n) (hp : ∀ a, p = some a → fr a = true) :
    Rel d n (o.bind fun l => putS l (s, p)) (addT F (s, p)) ∧ good (addT F (s, p)).1 := by
  refine ⟨?_, addT_good hF hp⟩
  cases o with
  | none => exact rel_no (by have := (rel_bad h); simp [addT, this])
  | some l =>
    obtain ⟨h1, h2, h3⟩ := (rel_use h)
    cases p with
    | none => exact rel_no (by simp [addT])
    | some a =>
      show Rel d n (put l s a) _
      rcases put_co h2 hs hn (hp a rfl) with ⟨e1, e2⟩ | ⟨l', c, e1, e2, e3, e4, _⟩
      · rw [e1]
        refine rel_no ?_
        rw [h3 s hs hn] at e2
        simp [addT, orZ, e2]
      · rw [e1]
        rw [h3 s hs hn] at e2
        refine .inr ⟨l', rfl, ?_, e3, fun w hw hwn => ?_⟩
        · simp [addT, orZ, e2, h1]
        · rw [e4]
          simp only [addT, orZ, Option.getD_some, e2]
          unfold upd
          split
          · rfl
          · exact h3 w hw hwn
theorem rel_check {d n : Nat} {o : Option Ts} {F : Tb} (h : Rel d n o F) (p : Option Fr) : Rel d n (p.bind fun _ => o) (F.1, F.2 || p.isNone) := by
  cases p with
  | none => exact rel_no (by simp)
  | some a =>
    show Rel d n o (F.1, F.2 || false)
    rw [Bool.or_false]
    exact h
def two (f : Ts → Ts → Option Ts) (o1 o2 : Option Ts) : Option Ts := o1.bind fun x => o2.bind fun y => f x y
/-! ### a sum that is made at a word behind all others -/
def tl (s : ByteArray) (a : Fr) : Ts := if a.1 = 0 then [] else [(s, a)]
theorem tl_zero (s : ByteArray) : tl s (0, 1) = [] := rfl
theorem put_tl {s : ByteArray} {a b : Fr} (ha : fr a = true) (hb : fr b = true) : ∀ {z : Ts}, (∀ t ∈ z, bef t.1 s = true) → put (z ++ tl s a) s b = (add a b).map fun c => z ++ tl s c
  | [], _ => by
    unfold tl
    by_cases h : a.1 = 0
    · obtain rfl := fr_num0 ha h
      rw [add_zero_left hb]
      rfl
    · rw [if_neg h, List.nil_append, put, if_neg (by rw [bef_irrefl]; decide), if_pos rfl]
      congr 1
  | t :: z, hz => by
    rw [List.cons_append, put, if_pos (hz t List.mem_cons_self), put_tl ha hb fun u hu => hz u (List.mem_cons_of_mem _ hu)]
    cases add a b <;> rfl
end Go.Proofs.Ytibjkjhpfmmjoaa.M
namespace Go.Proofs.Ytibjkjhpfmmjoaa.M
set_option linter.unusedVariables false
theorem unit_ts (d n : Nat) : isTs d n unitT = true := isTs_iff.2 ⟨fun t ht => by obtain rfl := List.mem_singleton.1 ht; exact isTm_mk (by rfl) (Nat.zero_le _) (by decide) (by decide), List.pairwise_singleton _ _⟩
theorem sumS_ts {d n : Nat} (hd : d ≤ 9) {x y z : Ts} (hx : isTs d n x = true) (hy : isTs d n y = true) (h : sumS x y = some z) : isTs d n z = true :=
  sum_ts hx (fun t ht => (isTs_iff.1 hy).1 t ht) h
/-! ### the numbers of the exponential, the logarithm, the inverse -/
end Go.Proofs.Ytibjkjhpfmmjoaa.M
namespace Go.Proofs.Ytibjkjhpfmmjoaa.M
set_option linter.unusedVariables false
theorem word_at {d m i : Nat} (hd : d ≤ 9) {s : ByteArray} (hs : (wordsN d m)[i]? = some s) : s.size = m ∧ isWd d s = true := wordsN_mem hd (List.mem_of_getElem? hs)
end Go.Proofs.Ytibjkjhpfmmjoaa.M

