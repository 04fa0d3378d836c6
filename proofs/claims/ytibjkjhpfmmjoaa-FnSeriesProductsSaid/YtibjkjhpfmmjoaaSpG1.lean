/- Plain facts and contracts of functions that the law's walk uses. Conditions: those that stand in each statement. -/
import Derived.WalkKit
import Derived.Lib.IndexBytes

/- Plain facts on whole numbers and fractions: greatest common divisors, lowest terms, what fits. Nothing of the program. Conditions: none. -/
namespace Go.Proofs.Ytibjkjhpfmmjoaa.M
set_option linter.unusedVariables false
set_option linter.unusedSimpArgs false

theorem gcd_tmod (a b : Int) : Int.gcd b (a.tmod b) = Int.gcd a b := by
  unfold Int.gcd
  rw [Int.natAbs_tmod, Nat.gcd_comm, ← Nat.gcd_rec, Nat.gcd_comm]
theorem tmod_lt {a b : Int} (h : b ≠ 0) : (a.tmod b).natAbs < b.natAbs := by
  rw [Int.natAbs_tmod]; exact Nat.mod_lt _ (by omega)
theorem tmod_le (a b : Int) : (a.tmod b).natAbs ≤ a.natAbs := by
  rw [Int.natAbs_tmod]; exact Nat.mod_le _ _

def inR (a b c : Int) : Bool := decide (b ≤ a ∧ a ≤ c)
theorem inR_iff (a b c : Int) : inR a b c = true ↔ b ≤ a ∧ a ≤ c := by simp [inR]
def isFr (a b : Int) : Bool := inR b 1 1000000000 && (inR a (-1000000000) 1000000000 && decide ((Int.gcd a b : Int) = 1))
theorem isFr_iff (a b : Int) : isFr a b = true ↔ 1 ≤ b ∧ b ≤ 1000000000 ∧ -1000000000 ≤ a ∧ a ≤ 1000000000 ∧ Int.gcd a b = 1 := by
  unfold isFr
  simp only [Bool.and_eq_true, inR_iff, decide_eq_true_eq]
  omega

def sgd (a b : Int) : Int := if b < 0 then -(Int.gcd a b : Int) else (Int.gcd a b : Int)
def rnum (a b : Int) : Int := Int.tdiv a (sgd a b)
def rden (a b : Int) : Int := Int.tdiv b (sgd a b)
def okN (a b : Int) : Bool := isFr (rnum a b) (rden a b)
def frac (a b : Int) : Option (Int × Int) := if b ≠ 0 ∧ okN a b = true then some (rnum a b, rden a b) else none

theorem gcd_pos {a b : Int} (h : b ≠ 0) : 0 < (Int.gcd a b : Int) := by
  have : Int.gcd a b ≠ 0 := by rw [Ne, Int.gcd_eq_zero_iff]; omega
  omega
theorem gcd_le {a b : Int} (h : b ≠ 0) : (Int.gcd a b : Int) ≤ b.natAbs := by
  have : Int.gcd a b ≤ b.natAbs := Nat.gcd_le_right _ (by omega)
  omega
theorem sgd_ne {a b : Int} (h : b ≠ 0) : sgd a b ≠ 0 := by
  unfold sgd; have := gcd_pos (a := a) h; split <;> omega
theorem tdiv_abs (a d : Int) : (Int.tdiv a d).natAbs ≤ a.natAbs := by
  rw [Int.natAbs_tdiv]; exact Nat.div_le_self _ _
theorem rnum_abs (a b : Int) : (rnum a b).natAbs ≤ a.natAbs := tdiv_abs _ _
theorem rden_abs (a b : Int) : (rden a b).natAbs ≤ b.natAbs := tdiv_abs _ _

abbrev Fr := Int × Int
def fr (a : Fr) : Bool := isFr a.1 a.2
def small (a : Fr) : Prop := -1000000000 ≤ a.1 ∧ a.1 ≤ 1000000000 ∧ -1000000000 ≤ a.2 ∧ a.2 ≤ 1000000000
theorem fr_small {a : Fr} (h : fr a = true) : small a := by
  have := (isFr_iff _ _).1 h; unfold small; omega
theorem fr_den {a : Fr} (h : fr a = true) : 1 ≤ a.2 := ((isFr_iff _ _).1 h).1
def add (a b : Fr) : Option Fr := frac (a.1 * b.2 + b.1 * a.2) (a.2 * b.2)
def mul (a b : Fr) : Option Fr := frac (a.1 * b.1) (a.2 * b.2)
theorem mul_abs {a b : Int} {m n : Nat} (ha : a.natAbs ≤ m) (hb : b.natAbs ≤ n) : (a * b).natAbs ≤ m * n := by
  rw [Int.natAbs_mul]; exact Nat.mul_le_mul ha hb
theorem small_mul {a b : Int} (ha : -1000000000 ≤ a ∧ a ≤ 1000000000) (hb : -1000000000 ≤ b ∧ b ≤ 1000000000) : -1000000000000000000 ≤ a * b ∧ a * b ≤ 1000000000000000000 := by
  have := mul_abs (a := a) (b := b) (m := 1000000000) (n := 1000000000) (by omega) (by omega)
  omega
theorem frac_fr {a b : Int} {c : Fr} (h : frac a b = some c) : fr c = true := by
  unfold frac at h
  split at h
  · rename_i hh; injection h with h; subst h; exact hh.2
  · cases h
theorem frac_ok {a b : Int} (h : b ≠ 0) (hk : okN a b = true) : frac a b = some (rnum a b, rden a b) := by unfold frac; rw [if_pos ⟨h, hk⟩]
theorem frac_bad {a b : Int} (hk : okN a b = false) : frac a b = none := by unfold frac; rw [if_neg (by simp [hk])]
theorem frac_zero (a : Int) : frac a 0 = none := by unfold frac; rw [if_neg (by simp)]
def told : Option Fr → Fr × Int
  | some c => (c, 0)
  | none => ((0, 0), 3)
def sfrac : Option Fr → Fr × Bool
  | some c => (c, true)
  | none => ((0, 0), false)
theorem wrap_id {x : Int} (h0 : -9223372036854775808 ≤ x) (h1 : x ≤ 9223372036854775807) : Go.RowKit.wrap64 x = x := by
  unfold Go.RowKit.wrap64; omega
end Go.Proofs.Ytibjkjhpfmmjoaa.M

/- The plain words of n letters: what spec.l01Words makes. -/
namespace Go.Proofs.Ytibjkjhpfmmjoaa.M
def letter (q : Nat) : ByteArray := ⟨#[(48 + q).toUInt8]⟩
def nextWords (d : Nat) (out : List ByteArray) : List ByteArray := out.flatMap fun s => (List.range d).map fun k => s ++ letter k
def wordsN (d : Nat) : Nat → List ByteArray
  | 0 => [⟨#[]⟩]
  | n + 1 => nextWords d (wordsN d n)
theorem nextWords_take (d : Nat) (out : List ByteArray) (i : Nat) (h : i < out.length) :
    nextWords d (out.take (i + 1)) = nextWords d (out.take i) ++ (List.range d).map fun k => out[i] ++ letter k := by
  unfold nextWords
  rw [List.take_succ_eq_append_getElem h, List.flatMap_append]
  simp
theorem nextWords_length (d : Nat) (out : List ByteArray) : (nextWords d out).length = out.length * d := by
  unfold nextWords
  induction out with
  | nil => simp
  | cons s r ih => rw [List.flatMap_cons, List.length_append, ih, List.length_map, List.length_range, List.length_cons, Nat.add_mul, Nat.one_mul, Nat.add_comm]
theorem wordsN_length (d n : Nat) : (wordsN d n).length = d ^ n := by
  induction n with
  | zero => rfl
  | succ n ih => rw [wordsN, nextWords_length, ih, Nat.pow_succ]
theorem wordsN_le {d n : Nat} (hd : d ≤ 3) (hn : n ≤ 8) : (wordsN d n).length ≤ 6561 := by
  rw [wordsN_length]
  exact Nat.le_trans (Nat.pow_le_pow_left hd n) (Nat.pow_le_pow_right (n := 3) (by omega) hn)
theorem wordsN_size {d : Nat} : ∀ {n : Nat} {s : ByteArray}, s ∈ wordsN d n → s.size = n
  | 0, s, h => by
    obtain rfl : s = ⟨#[]⟩ := by simpa [wordsN] using h
    rfl
  | n + 1, s, h => by
    simp only [wordsN, nextWords, List.mem_flatMap, List.mem_map, List.mem_range] at h
    obtain ⟨t, ht, q, hq, rfl⟩ := h
    have := wordsN_size ht
    rw [ByteArray.size_append, this]; rfl
theorem getD_mem {l : List ByteArray} {j : Nat} (h : j < l.length) : l.getD j ByteArray.empty ∈ l := by
  rw [List.getD_eq_getElem?_getD, List.getElem?_eq_getElem h]; exact List.getElem_mem _
def makingW (d : Nat) (ws : List ByteArray) (j q : Nat) : List ByteArray := nextWords d (ws.take j) ++ (List.range q).map fun k => ws.getD j ByteArray.empty ++ letter k
theorem makingW_zero (d : Nat) (ws : List ByteArray) (j : Nat) : makingW d ws j 0 = nextWords d (ws.take j) := by simp [makingW]
theorem makingW_next (d : Nat) (ws : List ByteArray) (j q : Nat) : makingW d ws j (q + 1) = makingW d ws j q ++ [ws.getD j ByteArray.empty ++ letter q] := by
  unfold makingW; rw [List.range_succ, List.map_append, List.append_assoc]; rfl
theorem makingW_end (d : Nat) (ws : List ByteArray) (j : Nat) (h : j < ws.length) : makingW d ws j d = nextWords d (ws.take (j + 1)) := by
  unfold makingW; rw [nextWords_take d ws j h, List.getD_eq_getElem?_getD, List.getElem?_eq_getElem h]; rfl
theorem makingW_le {d : Nat} {ws : List ByteArray} (hd : d ≤ 3) (hw : ws.length ≤ 6561) (j q : Nat) (hq : q ≤ 3) : (makingW d ws j q).length ≤ 20000 := by
  unfold makingW
  rw [List.length_append, nextWords_length, List.length_map, List.length_range, List.length_take]
  have : min j ws.length * d ≤ 6561 * 3 := Nat.mul_le_mul (by omega) hd
  omega
end Go.Proofs.Ytibjkjhpfmmjoaa.M

/- Plain facts on words, their order and their numbers, and on rows of terms. Nothing of the program. Conditions: none. -/
namespace Go.Proofs.Ytibjkjhpfmmjoaa.M
set_option linter.unusedVariables false
set_option linter.unusedSimpArgs false

/-! ### words -/
def bl (s : ByteArray) : List UInt8 := s.data.toList
theorem bl_ext {s t : ByteArray} (h : bl s = bl t) : s = t := by
  cases s; cases t; simp only [bl] at h; congr; exact Array.toList_inj.1 h
theorem bl_len (s : ByteArray) : (bl s).length = s.size := by simp [bl]
theorem bl_append (s t : ByteArray) : bl (s ++ t) = bl s ++ bl t := by simp [bl]
theorem bl_letter (q : Nat) : bl (letter q) = [(48 + q).toUInt8] := rfl
def isWL (d : Nat) (l : List UInt8) : Bool := l.all fun c => decide (48 ≤ c.toNat ∧ c.toNat < 48 + d)
def isWd (d : Nat) (s : ByteArray) : Bool := isWL d (bl s)
theorem letter_nat {q : Nat} (h : q < 10) : (48 + q).toUInt8.toNat = 48 + q := by
  have : (48 + q) % 256 = 48 + q := by omega
  simpa using this

/-! ### the order -/
abbrev bless := Go.Op.bytesLess
theorem bless_irrefl : ∀ l : List UInt8, bless l l = false
  | [] => rfl
  | a :: x => by simp [bless, Go.Op.bytesLess, bless_irrefl x]
theorem bless_trans : ∀ {a b c : List UInt8}, bless a b = true → bless b c = true → bless a c = true
  | _, [], _, h, _ => by cases ‹List UInt8› <;> simp [bless, Go.Op.bytesLess] at h
  | [], b :: y, [], _, k => by simp [bless, Go.Op.bytesLess] at k
  | [], b :: y, c :: z, _, _ => by simp [bless, Go.Op.bytesLess]
  | a :: x, b :: y, [], _, k => by simp [bless, Go.Op.bytesLess] at k
  | a :: x, b :: y, c :: z, h, k => by
    simp only [bless, Go.Op.bytesLess, Bool.or_eq_true, Bool.and_eq_true, decide_eq_true_eq, beq_iff_eq] at h k ⊢
    rcases h with h | ⟨rfl, h⟩
    · rcases k with k | ⟨rfl, k⟩
      · exact .inl (UInt8.lt_trans h k)
      · exact .inl h
    · rcases k with k | ⟨rfl, k⟩
      · exact .inl k
      · exact .inr ⟨rfl, bless_trans h k⟩
theorem bless_tri : ∀ {a b : List UInt8}, bless a b = false → bless b a = false → a = b
  | [], [], _, _ => rfl
  | [], b :: y, h, _ => by simp [bless, Go.Op.bytesLess] at h
  | a :: x, [], _, k => by simp [bless, Go.Op.bytesLess] at k
  | a :: x, b :: y, h, k => by
    simp only [bless, Go.Op.bytesLess, Bool.or_eq_false_iff, Bool.and_eq_false_iff, decide_eq_false_iff_not, beq_eq_false_iff_ne] at h k
    have e : a = b := by
      have h1 : ¬ a.toNat < b.toNat := by simpa [UInt8.lt_iff_toNat_lt] using h.1
      have k1 : ¬ b.toNat < a.toNat := by simpa [UInt8.lt_iff_toNat_lt] using k.1
      exact UInt8.toNat_inj.1 (by omega)
    subst e
    rw [bless_tri (h.2.resolve_left (fun hn => hn rfl)) (k.2.resolve_left (fun hn => hn rfl))]
def befL (v w : List UInt8) : Bool := if v.length = w.length then bless v w else decide (v.length < w.length)
def bef (v w : ByteArray) : Bool := befL (bl v) (bl w)
theorem befL_irrefl (v : List UInt8) : befL v v = false := by simp [befL, bless_irrefl]
theorem befL_trans {a b c : List UInt8} (h : befL a b = true) (k : befL b c = true) : befL a c = true := by
  unfold befL at *
  by_cases h1 : a.length = b.length <;> by_cases h2 : b.length = c.length
  · rw [if_pos h1] at h; rw [if_pos h2] at k; rw [if_pos (h1.trans h2)]; exact bless_trans h k
  · rw [if_neg h2] at k; rw [if_neg (by omega)]; simp at k ⊢; omega
  · rw [if_neg h1] at h; rw [if_neg (by omega)]; simp at h ⊢; omega
  · rw [if_neg h1] at h; rw [if_neg h2] at k; simp at h k; rw [if_neg (by omega)]; simp; omega
theorem befL_tri {a b : List UInt8} (h : befL a b = false) (k : befL b a = false) : a = b := by
  unfold befL at *
  by_cases h1 : a.length = b.length
  · rw [if_pos h1] at h; rw [if_pos h1.symm] at k; exact bless_tri h k
  · rw [if_neg h1] at h; rw [if_neg (by omega)] at k; simp at h k; omega
theorem bef_irrefl (v : ByteArray) : bef v v = false := befL_irrefl _
theorem bef_trans {a b c : ByteArray} (h : bef a b = true) (k : bef b c = true) : bef a c = true := befL_trans h k
theorem bef_tri {a b : ByteArray} (h : bef a b = false) (k : bef b a = false) : a = b := bl_ext (befL_tri h k)
theorem bef_ne {a b : ByteArray} (h : bef a b = true) : a ≠ b := fun e => by rw [e, bef_irrefl] at h; cases h

/-! ### rows of terms -/
abbrev Tm := ByteArray × Int × Int
abbrev Ts := List Tm
def isTm (d n : Nat) (t : Tm) : Bool := isWd d t.1 && (decide (t.1.size ≤ n) && (isFr t.2.1 t.2.2 && decide (t.2.1 ≠ 0)))
def asc : Ts → Bool
  | a :: b :: r => bef a.1 b.1 && asc (b :: r)
  | _ => true
def isTs (d n : Nat) (l : Ts) : Bool := l.all (isTm d n) && asc l
def Srt (l : Ts) : Prop := l.Pairwise fun a b => bef a.1 b.1 = true
theorem asc_srt : ∀ {l : Ts}, asc l = true ↔ Srt l
  | [] => by simp [asc, Srt]
  | [a] => by simp [asc, Srt]
  | a :: b :: r => by
    have ih := asc_srt (l := b :: r)
    unfold Srt at *
    rw [List.pairwise_cons]
    simp only [asc, Bool.and_eq_true]
    constructor
    · rintro ⟨h1, h2⟩
      have h3 := ih.1 h2
      refine ⟨fun c hc => ?_, h3⟩
      rcases List.mem_cons.1 hc with rfl | hc
      · exact h1
      · exact bef_trans h1 ((List.pairwise_cons.1 h3).1 c hc)
    · rintro ⟨h1, h2⟩
      exact ⟨h1 b List.mem_cons_self, ih.2 h2⟩
theorem isTs_iff {d n : Nat} {l : Ts} : isTs d n l = true ↔ (∀ t ∈ l, isTm d n t = true) ∧ Srt l := by
  unfold isTs; rw [Bool.and_eq_true, List.all_eq_true, asc_srt]
theorem asc_at : ∀ {l : Ts}, asc l = true ↔ ∀ j, (h : j + 1 < l.length) → bef (l[j]'(by omega)).1 l[j + 1].1 = true
  | [] => by simp [asc]
  | [a] => by simp [asc]
  | a :: b :: r => by
    have ih := asc_at (l := b :: r)
    simp only [asc, Bool.and_eq_true, ih]
    constructor
    · rintro ⟨h1, h2⟩ j hj
      cases j with
      | zero => exact h1
      | succ j => exact h2 j (by simpa using hj)
    · intro h
      exact ⟨h 0 (by simp), fun j hj => h (j + 1) (by simpa using hj)⟩
theorem isTs_at {d n : Nat} {l : Ts} : isTs d n l = true ↔ ∀ j, (h : j < l.length) → isTm d n l[j] = true ∧ (∀ (h0 : 0 < j), bef (l[j - 1]'(by omega)).1 l[j].1 = true) := by
  unfold isTs
  rw [Bool.and_eq_true, List.all_eq_true, asc_at]
  constructor
  · rintro ⟨h1, h2⟩ j hj
    refine ⟨h1 _ (List.getElem_mem _), fun h0 => ?_⟩
    have := h2 (j - 1) (by omega)
    simpa only [Nat.sub_add_cancel h0] using this
  · intro h
    refine ⟨fun t ht => ?_, fun j hj => ?_⟩
    · obtain ⟨j, hj, rfl⟩ := List.getElem_of_mem ht
      exact (h j hj).1
    · have := (h (j + 1) hj).2 (by omega)
      simpa using this

def co (l : Ts) (w : ByteArray) : Fr := match l.find? (fun t => decide (t.1 = w)) with
  | some t => t.2
  | none => (0, 1)
theorem co_nil (w : ByteArray) : co [] w = (0, 1) := rfl
theorem co_cons (t : Tm) (l : Ts) (w : ByteArray) : co (t :: l) w = if t.1 = w then t.2 else co l w := by
  unfold co
  rw [List.find?_cons]
  by_cases h : t.1 = w
  · simp [h]
  · rw [if_neg h, decide_eq_false h]
theorem co_none {l : Ts} {w : ByteArray} (h : ∀ t ∈ l, t.1 ≠ w) : co l w = (0, 1) := by
  induction l with
  | nil => rfl
  | cons t r ih => rw [co_cons, if_neg (h t List.mem_cons_self)]; exact ih fun u hu => h u (List.mem_cons_of_mem _ hu)
theorem co_mem {l : Ts} (hs : Srt l) {t : Tm} (ht : t ∈ l) : co l t.1 = t.2 := by
  induction l with
  | nil => cases ht
  | cons u r ih =>
    obtain ⟨h1, h2⟩ := List.pairwise_cons.1 hs
    rw [co_cons]
    rcases List.mem_cons.1 ht with rfl | ht
    · simp
    · rw [if_neg (bef_ne (h1 t ht))]; exact ih h2 ht
theorem co_zero_or {l : Ts} (w : ByteArray) : co l w = (0, 1) ∨ ∃ t ∈ l, t.1 = w ∧ co l w = t.2 := by
  induction l with
  | nil => exact .inl rfl
  | cons t r ih =>
    rw [co_cons]
    by_cases h : t.1 = w
    · exact .inr ⟨t, List.mem_cons_self, h, by rw [if_pos h]⟩
    · rw [if_neg h]
      rcases ih with e | ⟨u, hu, e, k⟩
      · exact .inl e
      · exact .inr ⟨u, List.mem_cons_of_mem _ hu, e, k⟩
theorem isTm_fr {d n : Nat} {t : Tm} (h : isTm d n t = true) : fr t.2 = true ∧ t.2.1 ≠ 0 ∧ isWd d t.1 = true ∧ t.1.size ≤ n := by
  simp only [isTm, Bool.and_eq_true, decide_eq_true_eq] at h
  exact ⟨h.2.2.1, h.2.2.2, h.1, h.2.1⟩
theorem fr_zero : fr (0, 1) = true := by decide
theorem co_fr {d n : Nat} {l : Ts} (h : isTs d n l = true) (w : ByteArray) : fr (co l w) = true := by
  rcases co_zero_or (l := l) w with e | ⟨t, ht, _, e⟩
  · rw [e]; exact fr_zero
  · rw [e]; exact (isTm_fr ((isTs_iff.1 h).1 t ht)).1
theorem mem_iff_co {d n : Nat} {l : Ts} (h : isTs d n l = true) (t : Tm) : t ∈ l ↔ co l t.1 = t.2 ∧ t.2.1 ≠ 0 := by
  obtain ⟨h1, h2⟩ := isTs_iff.1 h
  constructor
  · intro ht; exact ⟨co_mem h2 ht, (isTm_fr (h1 t ht)).2.1⟩
  · rintro ⟨hc, hn⟩
    rcases co_zero_or (l := l) t.1 with e | ⟨u, hu, e, k⟩
    · rw [e] at hc; rw [← hc] at hn; exact absurd rfl hn
    · have : u = t := Prod.ext e (k.symm.trans hc)
      exact this ▸ hu
theorem srt_ext : ∀ {l m : Ts}, Srt l → Srt m → (∀ t, t ∈ l ↔ t ∈ m) → l = m
  | [], [], _, _, _ => rfl
  | [], b :: m, _, _, h => absurd ((h b).2 List.mem_cons_self) (by simp)
  | a :: l, [], _, _, h => absurd ((h a).1 List.mem_cons_self) (by simp)
  | a :: l, b :: m, hl, hm, h => by
    obtain ⟨l1, l2⟩ := List.pairwise_cons.1 hl
    obtain ⟨m1, m2⟩ := List.pairwise_cons.1 hm
    have e : a = b := by
      rcases List.mem_cons.1 ((h a).1 List.mem_cons_self) with e | ha
      · exact e
      · rcases List.mem_cons.1 ((h b).2 List.mem_cons_self) with e | hb
        · exact e.symm
        · have := bef_trans (m1 a ha) (l1 b hb)
          rw [bef_irrefl] at this; cases this
    subst e
    have : l = m := srt_ext l2 m2 fun t => by
      constructor
      · intro ht
        rcases List.mem_cons.1 ((h t).1 (List.mem_cons_of_mem _ ht)) with rfl | hm
        · have := l1 t ht; rw [bef_irrefl] at this; cases this
        · exact hm
      · intro ht
        rcases List.mem_cons.1 ((h t).2 (List.mem_cons_of_mem _ ht)) with rfl | hm
        · have := m1 t ht; rw [bef_irrefl] at this; cases this
        · exact hm
    rw [this]
theorem ts_ext {d n : Nat} {l m : Ts} (hl : isTs d n l = true) (hm : isTs d n m = true) (h : ∀ w, co l w = co m w) : l = m :=
  srt_ext (isTs_iff.1 hl).2 (isTs_iff.1 hm).2 fun t => by rw [mem_iff_co hl, mem_iff_co hm, h]

/-! ### fractions once more -/
theorem sgd_one {a b : Int} (h : isFr a b = true) : sgd a b = 1 := by
  obtain ⟨h1, h2, h3, h4, h5⟩ := (isFr_iff _ _).1 h
  unfold sgd; rw [if_neg (by omega), h5]; rfl
theorem frac_self {a b : Int} (h : isFr a b = true) : frac a b = some (a, b) := by
  have hs := sgd_one h
  have h1 := ((isFr_iff _ _).1 h).1
  have hn : rnum a b = a := by unfold rnum; rw [hs, Int.tdiv_one]
  have hd : rden a b = b := by unfold rden; rw [hs, Int.tdiv_one]
  rw [frac_ok (by omega) (by unfold okN; rw [hn, hd]; exact h), hn, hd]
theorem add_zero_left {a : Fr} (h : fr a = true) : add (0, 1) a = some a := by
  unfold add
  simp only [Int.zero_mul, Int.mul_one, Int.zero_add, Int.one_mul]
  exact frac_self h
theorem add_zero_right {a : Fr} (h : fr a = true) : add a (0, 1) = some a := by
  unfold add
  simp only [Int.zero_mul, Int.mul_one, Int.add_zero]
  exact frac_self h
theorem fr_num0 {a : Fr} (h : fr a = true) (h0 : a.1 = 0) : a = (0, 1) := by
  obtain ⟨h1, h2, h3, h4, h5⟩ := (isFr_iff _ _).1 h
  rw [h0, Int.gcd_zero_left] at h5
  exact Prod.ext h0 (by simp only; omega)
theorem add_fr {a b c : Fr} (h : add a b = some c) : fr c = true := frac_fr h
theorem mul_fr {a b c : Fr} (h : mul a b = some c) : fr c = true := frac_fr h

/-! ### putting -/
def put : Ts → ByteArray → Fr → Option Ts
  | [], w, a => some (if a.1 = 0 then [] else [(w, a)])
  | t :: r, w, a => if bef t.1 w = true then (put r w a).map (t :: ·) else if t.1 = w then (add t.2 a).map (fun s => if s.1 = 0 then r else (w, s) :: r) else some (if a.1 = 0 then t :: r else (w, a) :: t :: r)
def upd (f : ByteArray → Fr) (w : ByteArray) (a : Fr) : ByteArray → Fr := fun v => if v = w then a else f v
theorem isTm_mk {d n : Nat} {w : ByteArray} {a : Fr} (hw : isWd d w = true) (hn : w.size ≤ n) (ha : fr a = true) (h0 : a.1 ≠ 0) : isTm d n (w, a) = true := by
  unfold isTm; simp only [hw, Bool.true_and, Bool.and_eq_true, decide_eq_true_eq]; exact ⟨hn, ha, h0⟩
theorem put_co : ∀ {d n : Nat} {l : Ts} {w : ByteArray} {a : Fr}, isTs d n l = true → isWd d w = true → w.size ≤ n → fr a = true →
    (put l w a = none ∧ add (co l w) a = none) ∨ ∃ l' s, put l w a = some l' ∧ add (co l w) a = some s ∧ isTs d n l' = true ∧ (∀ v, co l' v = upd (co l) w s v) ∧ (∀ u ∈ l', u.1 = w ∨ ∃ t ∈ l, t.1 = u.1)
  | d, n, [], w, a, h, hw, hn, ha => by
    right
    rw [co_nil, add_zero_left ha]
    refine ⟨_, a, rfl, rfl, ?_, fun v => ?_, ?_⟩
    · by_cases h0 : a.1 = 0
      · rw [if_pos h0]; rfl
      · rw [if_neg h0, isTs_iff]; exact ⟨fun t ht => by rw [List.mem_singleton.1 ht]; exact isTm_mk hw hn ha h0, List.pairwise_singleton _ _⟩
    · unfold upd
      by_cases h0 : a.1 = 0
      · rw [if_pos h0, co_nil, fr_num0 ha h0]; split <;> rfl
      · rw [if_neg h0, co_cons, co_nil]; simp only [eq_comm]
    · by_cases h0 : a.1 = 0
      · rw [if_pos h0]; intro u hu; cases hu
      · rw [if_neg h0]; intro u hu; rw [List.mem_singleton.1 hu]; exact .inl rfl
  | d, n, t :: r, w, a, h, hw, hn, ha => by
    obtain ⟨h1, h2⟩ := isTs_iff.1 h
    obtain ⟨h3, h4⟩ := List.pairwise_cons.1 h2
    have hr : isTs d n r = true := isTs_iff.2 ⟨fun u hu => h1 u (List.mem_cons_of_mem _ hu), h4⟩
    by_cases hb : bef t.1 w = true
    · have hne := bef_ne hb
      rcases put_co hr hw hn ha with ⟨e1, e2⟩ | ⟨l', s, e1, e2, e3, e4, e5⟩
      · left
        refine ⟨by simp only [put, hb, if_true, e1]; rfl, by rw [co_cons, if_neg hne]; exact e2⟩
      · right
        refine ⟨t :: l', s, by simp only [put, hb, if_true, e1]; rfl, by rw [co_cons, if_neg hne]; exact e2, ?_, fun v => ?_, ?_⟩
        · obtain ⟨k1, k2⟩ := isTs_iff.1 e3
          refine isTs_iff.2 ⟨fun u hu => ?_, List.pairwise_cons.2 ⟨fun u hu => ?_, k2⟩⟩
          · rcases List.mem_cons.1 hu with rfl | hu
            · exact h1 _ List.mem_cons_self
            · exact k1 u hu
          · rcases e5 u hu with e | ⟨x, hx, e⟩
            · rw [e]; exact hb
            · rw [← e]; exact h3 x hx
        · rw [co_cons, e4]
          unfold upd
          rw [co_cons]
          by_cases hv : v = w
          · subst hv; rw [if_neg hne]; simp
          · simp only [hv, if_false]
        · intro u hu
          rcases List.mem_cons.1 hu with rfl | hu
          · exact .inr ⟨u, List.mem_cons_self, rfl⟩
          · rcases e5 u hu with e | ⟨x, hx, e⟩
            · exact .inl e
            · exact .inr ⟨x, List.mem_cons_of_mem _ hx, e⟩
    · by_cases he : t.1 = w
      · rw [co_cons, if_pos he]
        cases hs : add t.2 a with
        | none =>
          left
          exact ⟨by simp only [put, hb, he, if_true, hs]; simp [bef_irrefl, hs], rfl⟩
        | some s =>
          right
          have hfs := add_fr hs
          refine ⟨if s.1 = 0 then r else (w, s) :: r, s, by simp only [put]; rw [if_neg hb, if_pos he, hs]; rfl, rfl, ?_, fun v => ?_, ?_⟩
          · by_cases h0 : s.1 = 0
            · rw [if_pos h0]; exact hr
            · rw [if_neg h0]
              refine isTs_iff.2 ⟨fun u hu => ?_, List.pairwise_cons.2 ⟨fun u hu => ?_, h4⟩⟩
              · rcases List.mem_cons.1 hu with rfl | hu
                · exact isTm_mk hw hn hfs h0
                · exact h1 u (List.mem_cons_of_mem _ hu)
              · have := h3 u hu; rw [he] at this; exact this
          · unfold upd
            have hnr : co r w = (0, 1) := co_none fun u hu e => by have := h3 u hu; rw [he, e, bef_irrefl] at this; cases this
            by_cases h0 : s.1 = 0
            · rw [if_pos h0, co_cons, he]
              by_cases hv : v = w
              · subst hv; rw [if_pos rfl, hnr, fr_num0 hfs h0]
              · rw [if_neg hv, if_neg (fun e => hv e.symm)]
            · rw [if_neg h0, co_cons, co_cons, he]
              by_cases hv : v = w
              · subst hv; simp
              · rw [if_neg hv, if_neg (fun e => hv e.symm), if_neg (fun e => hv e.symm)]
          · intro u hu
            by_cases h0 : s.1 = 0
            · rw [if_pos h0] at hu; exact .inr ⟨u, List.mem_cons_of_mem _ hu, rfl⟩
            · rw [if_neg h0] at hu
              rcases List.mem_cons.1 hu with rfl | hu
              · exact .inl rfl
              · exact .inr ⟨u, List.mem_cons_of_mem _ hu, rfl⟩
      · right
        have hlt : bef w t.1 = true := by
          cases hh : bef w t.1 with
          | true => rfl
          | false => exact absurd (bef_tri (by simpa using hb) hh) he
        have hall : ∀ u ∈ t :: r, bef w u.1 = true := fun u hu => by
          rcases List.mem_cons.1 hu with rfl | hu
          · exact hlt
          · exact bef_trans hlt (h3 u hu)
        have hz : co (t :: r) w = (0, 1) := co_none fun u hu e => by have := hall u hu; rw [e, bef_irrefl] at this; cases this
        rw [hz, add_zero_left ha]
        refine ⟨if a.1 = 0 then t :: r else (w, a) :: t :: r, a, by simp only [put]; rw [if_neg hb, if_neg he], rfl, ?_, fun v => ?_, ?_⟩
        · by_cases h0 : a.1 = 0
          · rw [if_pos h0]; exact h
          · rw [if_neg h0]
            refine isTs_iff.2 ⟨fun u hu => ?_, List.pairwise_cons.2 ⟨hall, h2⟩⟩
            rcases List.mem_cons.1 hu with rfl | hu
            · exact isTm_mk hw hn ha h0
            · exact h1 u hu
        · unfold upd
          by_cases h0 : a.1 = 0
          · rw [if_pos h0]
            by_cases hv : v = w
            · subst hv; rw [if_pos rfl, hz, fr_num0 ha h0]
            · rw [if_neg hv]
          · rw [if_neg h0, co_cons (w, a)]
            simp only [eq_comm]
        · intro u hu
          by_cases h0 : a.1 = 0
          · rw [if_pos h0] at hu; exact .inr ⟨u, hu, rfl⟩
          · rw [if_neg h0] at hu
            rcases List.mem_cons.1 hu with rfl | hu
            · exact .inl rfl
            · exact .inr ⟨u, hu, rfl⟩
end Go.Proofs.Ytibjkjhpfmmjoaa.M

/- Which sizes and rows of terms make a series. Conditions: none. -/
namespace Go.Proofs.Ytibjkjhpfmmjoaa.M
def lev (d n : Int) : Bool := inR d 1 3 && (inR n 1 5 && (decide (d < 3) || decide (n ≤ 4)))
theorem lev_iff {d n : Int} : lev d n = true ↔ (1 ≤ d ∧ d ≤ 3) ∧ (1 ≤ n ∧ n ≤ 5) ∧ (d < 3 ∨ n ≤ 4) := by simp [lev, inR]
def isS (d n : Int) (l : Ts) : Bool := lev d n && isTs d.toNat n.toNat l
def bnd (l : Ts) : Bool := decide (l.length ≤ 1048576) && l.all fun t => decide (t.1.size ≤ 1048576)
theorem bnd_iff {l : Ts} : bnd l = true ↔ l.length ≤ 1048576 ∧ ∀ t ∈ l, t.1.size ≤ 1048576 := by simp [bnd]
end Go.Proofs.Ytibjkjhpfmmjoaa.M

namespace Go.Proofs.Ytibjkjhpfmmjoaa.M
set_option linter.unusedVariables false
set_option linter.unusedSimpArgs false

/-! ### rows -/
def stepI (v w : List UInt8) (c : UInt8) (k : Nat) (ways next : List Int) (i : Nat) : List Int :=
  let n := ways.getD i 0
  let next1 := if i < v.length ∧ c = v.getD i 0 then next.set (i + 1) (next.getD (i + 1) 0 + n) else next
  if i ≤ k ∧ k - i < w.length ∧ c = w.getD (k - i) 0 then next1.set i (next1.getD i 0 + n) else next1
def innerI (v w : List UInt8) (c : UInt8) (k : Nat) (ways : List Int) : Nat → List Int
  | 0 => List.replicate (v.length + 1) 0
  | i + 1 => stepI v w c k ways (innerI v w c k ways i) i
def rowI (v w u : List UInt8) : Nat → List Int
  | 0 => (List.replicate (v.length + 1) 0).set 0 1
  | k + 1 => innerI v w (u.getD k 0) k (rowI v w u k) (v.length + 1)
/-! ### the sum over a row stays -/
end Go.Proofs.Ytibjkjhpfmmjoaa.M

namespace Go.Proofs.Ytibjkjhpfmmjoaa.M
set_option linter.unusedVariables false
set_option linter.unusedSimpArgs false
/-! ### numbers of words -/
def valL (d : Nat) (l : List UInt8) : Nat := l.foldl (fun v c => v * d + (c.toNat - 48)) 0
def ahead (d : Nat) : Nat → Nat
  | 0 => 0
  | k + 1 => ahead d k + d ^ k
def num (d : Nat) (s : ByteArray) : Nat := ahead d s.size + valL d (bl s)
def allU (d k : Nat) : List ByteArray := (List.range k).flatMap (wordsN d)
def allW (d n : Nat) : List ByteArray := allU d (n + 1)
theorem allU_zero (d : Nat) : allU d 0 = [] := rfl
theorem allU_succ (d k : Nat) : allU d (k + 1) = allU d k ++ wordsN d k := by
  unfold allU; rw [List.range_succ, List.flatMap_append]; simp
theorem allU_length (d k : Nat) : (allU d k).length = ahead d k := by
  induction k with
  | zero => rfl
  | succ k ih => rw [allU_succ, List.length_append, ih, wordsN_length, ahead]
theorem valL_snoc (d : Nat) (l : List UInt8) (c : UInt8) : valL d (l ++ [c]) = valL d l * d + (c.toNat - 48) := by
  unfold valL; rw [List.foldl_append]; rfl
theorem isWL_append (d : Nat) (a b : List UInt8) : isWL d (a ++ b) = (isWL d a && isWL d b) := by unfold isWL; rw [List.all_append]
theorem isWL_one {d : Nat} {c : UInt8} : isWL d [c] = true ↔ 48 ≤ c.toNat ∧ c.toNat < 48 + d := by simp [isWL]
theorem snoc_of {l : List UInt8} {n : Nat} (h : l.length = n + 1) : ∃ m c, l = m ++ [c] ∧ m.length = n := by
  rcases List.eq_nil_or_concat l with e | ⟨m, c, e⟩
  · rw [e] at h; cases h
  · refine ⟨m, c, by rw [e, List.concat_eq_append], ?_⟩
    rw [e, List.concat_eq_append, List.length_append] at h; simpa using h
theorem valL_lt {d : Nat} : ∀ {n : Nat} {l : List UInt8}, l.length = n → isWL d l = true → valL d l < d ^ n
  | 0, l, h, _ => by obtain rfl := List.eq_nil_of_length_eq_zero h; simp [valL]
  | n + 1, l, h, hw => by
    obtain ⟨m, c, rfl, hm⟩ := snoc_of h
    rw [isWL_append, Bool.and_eq_true, isWL_one] at hw
    have ih := valL_lt hm hw.1
    rw [valL_snoc, Nat.pow_succ]
    have h1 : valL d m * d + d ≤ d ^ n * d := by
      have : (valL d m + 1) * d ≤ d ^ n * d := Nat.mul_le_mul_right d ih
      rwa [Nat.add_mul, Nat.one_mul] at this
    omega
theorem flatMap_get {α β : Type} (g : α → List β) (m : Nat) (hg : ∀ a, (g a).length = m) : ∀ (l : List α) (i j : Nat), j < m → (l.flatMap g)[i * m + j]? = (l[i]?).bind fun a => (g a)[j]?
  | [], i, j, h => by simp
  | a :: l, 0, j, h => by
    rw [List.flatMap_cons, Nat.zero_mul, Nat.zero_add, List.getElem?_append_left (by rw [hg]; exact h)]; rfl
  | a :: l, i + 1, j, h => by
    rw [List.flatMap_cons, List.getElem?_append_right (by rw [hg, Nat.succ_mul]; omega), hg]
    have e : (i + 1) * m + j - m = i * m + j := by rw [Nat.succ_mul]; omega
    rw [e, flatMap_get g m hg l i j h]; simp
theorem bl_snoc {s : ByteArray} {m : List UInt8} {q : Nat} (h : bl s = m ++ [(48 + q).toUInt8]) : s = (⟨m.toArray⟩ : ByteArray) ++ letter q := by
  apply bl_ext; rw [bl_append, bl_letter, h]; rfl
theorem digit_of {c : UInt8} {d : Nat} (h : 48 ≤ c.toNat ∧ c.toNat < 48 + d) : c = (48 + (c.toNat - 48)).toUInt8 := by
  have e : 48 + (c.toNat - 48) = c.toNat := by omega
  rw [e]; apply UInt8.toNat_inj.1; simp
theorem wordsN_get {d : Nat} : ∀ {n : Nat} {s : ByteArray}, s.size = n → isWd d s = true → (wordsN d n)[valL d (bl s)]? = some s
  | 0, s, h, _ => by
    have e : bl s = [] := List.eq_nil_of_length_eq_zero (by rw [bl_len, h])
    have e2 : s = ⟨#[]⟩ := bl_ext (by rw [e]; rfl)
    subst e2; rfl
  | n + 1, s, h, hw => by
    obtain ⟨m, c, e, hm⟩ := snoc_of (l := bl s) (n := n) (by rw [bl_len, h])
    have hw' : isWL d (bl s) = true := hw
    rw [e, isWL_append, Bool.and_eq_true, isWL_one] at hw'
    have ih := wordsN_get (d := d) (n := n) (s := ⟨m.toArray⟩) (by rw [← bl_len]; exact hm) hw'.1
    have hq : c.toNat - 48 < d := by omega
    have hc := digit_of hw'.2
    rw [e, valL_snoc, wordsN, nextWords, flatMap_get _ d (by simp) _ _ _ hq]
    have ih' : (wordsN d n)[valL d m]? = some ⟨m.toArray⟩ := ih
    rw [ih']
    simp only [Option.bind_some]
    rw [List.getElem?_map, List.getElem?_range hq]
    simp only [Option.map_some]
    rw [bl_snoc (s := s) (m := m) (q := c.toNat - 48) (by rw [e]; congr 1; rw [← hc])]
theorem ahead_mono (d : Nat) {i j : Nat} (h : i ≤ j) : ahead d i ≤ ahead d j := by
  induction h with
  | refl => exact Nat.le_refl _
  | step _ ih => rw [ahead]; omega
theorem num_lt {d : Nat} {s : ByteArray} {k : Nat} (h : s.size < k) (hw : isWd d s = true) : num d s < ahead d k := by
  have h1 := valL_lt (d := d) (l := bl s) rfl hw
  rw [bl_len] at h1
  have h2 := ahead_mono d (i := s.size + 1) (j := k) h
  rw [ahead] at h2
  unfold num; omega
theorem allU_get {d : Nat} {s : ByteArray} (hw : isWd d s = true) : ∀ {k : Nat}, s.size < k → (allU d k)[num d s]? = some s
  | 0, h => by omega
  | k + 1, h => by
    rw [allU_succ]
    by_cases hk : s.size < k
    · rw [List.getElem?_append_left (by rw [allU_length]; exact num_lt hk hw)]; exact allU_get hw hk
    · obtain rfl : s.size = k := by omega
      rw [List.getElem?_append_right (by rw [allU_length]; unfold num; omega), allU_length]
      have e : num d s - ahead d s.size = valL d (bl s) := by unfold num; omega
      rw [e]; exact wordsN_get rfl hw
theorem wordsN_mem {d : Nat} (hd : d ≤ 9) : ∀ {n : Nat} {s : ByteArray}, s ∈ wordsN d n → s.size = n ∧ isWd d s = true
  | 0, s, h => by
    obtain rfl : s = ⟨#[]⟩ := by simpa [wordsN] using h
    exact ⟨rfl, rfl⟩
  | n + 1, s, h => by
    simp only [wordsN, nextWords, List.mem_flatMap, List.mem_map, List.mem_range] at h
    obtain ⟨t, ht, q, hq, rfl⟩ := h
    obtain ⟨h1, h2⟩ := wordsN_mem hd ht
    refine ⟨by rw [← bl_len, bl_append, List.length_append, bl_len, h1]; rfl, ?_⟩
    unfold isWd
    rw [bl_append, isWL_append, Bool.and_eq_true]
    refine ⟨h2, ?_⟩
    rw [bl_letter, isWL_one, letter_nat (by omega)]; omega
theorem allU_mem {d : Nat} (hd : d ≤ 9) : ∀ {k : Nat} {s : ByteArray}, s ∈ allU d k ↔ isWd d s = true ∧ s.size < k
  | 0, s => by simp [allU_zero]
  | k + 1, s => by
    constructor
    · intro h
      rw [allU_succ, List.mem_append] at h
      rcases h with h | h
      · have := (allU_mem hd).1 h; exact ⟨this.1, by omega⟩
      · have := wordsN_mem hd h; exact ⟨this.2, by omega⟩
    · rintro ⟨h1, h2⟩
      exact List.mem_of_getElem? (allU_get h1 h2)
theorem allW_mem {d n : Nat} (hd : d ≤ 9) {s : ByteArray} : s ∈ allW d n ↔ isWd d s = true ∧ s.size ≤ n := by
  unfold allW; rw [allU_mem hd]; constructor <;> rintro ⟨h1, h2⟩ <;> exact ⟨h1, by omega⟩
theorem allW_get {d n : Nat} {s : ByteArray} (hw : isWd d s = true) (h : s.size ≤ n) : (allW d n)[num d s]? = some s := allU_get hw (by omega)
theorem allW_length (d n : Nat) : (allW d n).length = ahead d (n + 1) := allU_length _ _
theorem num_lt' {d n : Nat} {s : ByteArray} (hw : isWd d s = true) (h : s.size ≤ n) : num d s < (allW d n).length := by
  rw [allW_length]; exact num_lt (by omega) hw
/-! ### all words ascend -/
theorem bless_cons_same (c : UInt8) (x y : List UInt8) : bless (c :: x) (c :: y) = bless x y := by simp [bless, Go.Op.bytesLess]
theorem bless_same (l : List UInt8) (x y : List UInt8) : bless (l ++ x) (l ++ y) = bless x y := by
  induction l with
  | nil => rfl
  | cons c l ih => rw [List.cons_append, List.cons_append, bless_cons_same, ih]
theorem bless_append : ∀ {a b : List UInt8} (x y : List UInt8), a.length = b.length → bless a b = true → bless (a ++ x) (b ++ y) = true
  | [], [], _, _, _, h => by simp [bless, Go.Op.bytesLess] at h
  | [], _ :: _, _, _, h, _ => by cases h
  | _ :: _, [], _, _, h, _ => by cases h
  | a :: p, b :: q, x, y, hl, h => by
    simp only [bless, List.cons_append, Go.Op.bytesLess, Bool.or_eq_true, Bool.and_eq_true, decide_eq_true_eq, beq_iff_eq] at h ⊢
    rcases h with h | ⟨rfl, h⟩
    · exact .inl h
    · exact .inr ⟨rfl, bless_append x y (by simpa using hl) h⟩
theorem bless_digit {i j : Nat} (h : i < j) (hj : j < 10) : bless [(48 + i).toUInt8] [(48 + j).toUInt8] = true := by
  have : (48 + i).toUInt8 < (48 + j).toUInt8 := by rw [UInt8.lt_iff_toNat_lt, letter_nat (by omega), letter_nat hj]; omega
  show (decide ((48 + i).toUInt8 < (48 + j).toUInt8) || _) = true
  rw [decide_eq_true this]; rfl
theorem wordsN_srt {d : Nat} (hd : d ≤ 9) : ∀ n, (wordsN d n).Pairwise fun a b => bef a b = true
  | 0 => by simp [wordsN]
  | n + 1 => by
    rw [wordsN, nextWords, List.pairwise_flatMap]
    constructor
    · intro s hs
      rw [List.pairwise_map]
      refine (List.pairwise_lt_range).imp_of_mem ?_
      intro i j hi hj hij
      rw [List.mem_range] at hi hj
      unfold bef befL
      rw [bl_append, bl_append, if_pos (by simp [bl_letter]), bless_same]
      exact bless_digit hij (by omega)
    · refine (wordsN_srt hd n).imp_of_mem ?_
      intro s t hs ht hst x hx y hy
      obtain ⟨i, hi, rfl⟩ := List.mem_map.1 hx
      obtain ⟨j, hj, rfl⟩ := List.mem_map.1 hy
      have h1 : (bl s).length = (bl t).length := by rw [bl_len, bl_len, (wordsN_mem hd hs).1, (wordsN_mem hd ht).1]
      unfold bef befL at hst ⊢
      rw [if_pos h1] at hst
      rw [bl_append, bl_append, if_pos (by simp [bl_letter, h1])]
      exact bless_append _ _ h1 hst
theorem allU_srt {d : Nat} (hd : d ≤ 9) : ∀ k, (allU d k).Pairwise fun a b => bef a b = true
  | 0 => by simp [allU_zero]
  | k + 1 => by
    rw [allU_succ, List.pairwise_append]
    refine ⟨allU_srt hd k, wordsN_srt hd k, fun a ha b hb => ?_⟩
    have h1 := ((allU_mem hd).1 ha).2
    have h2 := (wordsN_mem hd hb).1
    unfold bef befL
    rw [if_neg (by rw [bl_len, bl_len]; omega), bl_len, bl_len]
    simp; omega
theorem allW_srt {d : Nat} (hd : d ≤ 9) (n : Nat) : (allW d n).Pairwise fun a b => bef a b = true := allU_srt hd _
/-! ### tables -/
def good (f : ByteArray → Fr) : Prop := ∀ w, fr (f w) = true
def tabT (d n : Nat) (f : ByteArray → Fr) : Ts := (allW d n).filterMap fun w => if (f w).1 = 0 then none else some (w, f w)
theorem tabT_mem {d n : Nat} (hd : d ≤ 9) {f : ByteArray → Fr} {t : Tm} : t ∈ tabT d n f ↔ isWd d t.1 = true ∧ t.1.size ≤ n ∧ t.2 = f t.1 ∧ t.2.1 ≠ 0 := by
  unfold tabT
  rw [List.mem_filterMap]
  constructor
  · rintro ⟨w, hw, h⟩
    obtain ⟨h1, h2⟩ := (allW_mem hd).1 hw
    split at h
    · cases h
    · rename_i h0
      injection h with h
      subst h
      exact ⟨h1, h2, rfl, h0⟩
  · rintro ⟨h1, h2, h3, h4⟩
    refine ⟨t.1, (allW_mem hd).2 ⟨h1, h2⟩, ?_⟩
    rw [← h3, if_neg h4]
theorem tabT_is {d n : Nat} (hd : d ≤ 9) {f : ByteArray → Fr} (hf : good f) : isTs d n (tabT d n f) = true := by
  rw [isTs_iff]
  constructor
  · intro t ht
    obtain ⟨h1, h2, h3, h4⟩ := (tabT_mem hd).1 ht
    exact isTm_mk h1 h2 (by rw [h3]; exact hf _) h4
  · unfold Srt tabT
    rw [List.pairwise_filterMap]
    refine (allW_srt hd n).imp ?_
    intro a b hab t ht u hu
    split at ht
    · cases ht
    · split at hu
      · cases hu
      · injection ht with ht; injection hu with hu
        subst ht; subst hu; exact hab
theorem tabT_co {d n : Nat} (hd : d ≤ 9) {f : ByteArray → Fr} (hf : good f) {w : ByteArray} (hw : isWd d w = true) (hn : w.size ≤ n) : co (tabT d n f) w = f w := by
  by_cases h0 : (f w).1 = 0
  · rcases co_zero_or (l := tabT d n f) w with e | ⟨t, ht, e, k⟩
    · rw [e, fr_num0 (hf w) h0]
    · obtain ⟨_, _, h3, h4⟩ := (tabT_mem hd).1 ht
      rw [e] at h3; rw [h3] at h4; exact absurd h0 h4
  · exact co_mem (t := (w, f w)) (isTs_iff.1 (tabT_is hd hf)).2 ((tabT_mem hd).2 ⟨hw, hn, rfl, h0⟩)
theorem co_off {d n : Nat} {l : Ts} (h : isTs d n l = true) {w : ByteArray} (hw : ¬ (isWd d w = true ∧ w.size ≤ n)) : co l w = (0, 1) :=
  co_none fun t ht e => hw (by have := isTm_fr ((isTs_iff.1 h).1 t ht); rw [e] at this; exact ⟨this.2.2.1, this.2.2.2⟩)
theorem eq_tabT {d n : Nat} (hd : d ≤ 9) {l : Ts} {f : ByteArray → Fr} (h : isTs d n l = true) (hf : good f) (hc : ∀ w, isWd d w = true → w.size ≤ n → co l w = f w) : l = tabT d n f :=
  ts_ext h (tabT_is hd hf) fun w => by
    by_cases hw : isWd d w = true ∧ w.size ≤ n
    · rw [hc w hw.1 hw.2, tabT_co hd hf hw.1 hw.2]
    · rw [co_off h hw, co_off (tabT_is hd hf) hw]
theorem good_co {d n : Nat} {l : Ts} (h : isTs d n l = true) : good (co l) := co_fr h
theorem eq_tabT_co {d n : Nat} (hd : d ≤ 9) {l : Ts} (h : isTs d n l = true) : l = tabT d n (co l) := eq_tabT hd h (good_co h) fun _ _ _ => rfl
theorem tabT_length_le (d n : Nat) (f : ByteArray → Fr) : (tabT d n f).length ≤ ahead d (n + 1) := by
  unfold tabT; rw [← allW_length]; exact List.length_filterMap_le _ _
theorem ts_length_le {d n : Nat} (hd : d ≤ 9) {l : Ts} (h : isTs d n l = true) : l.length ≤ ahead d (n + 1) := by
  rw [eq_tabT_co hd h]; exact tabT_length_le _ _ _
theorem good_upd {f : ByteArray → Fr} (hf : good f) {w : ByteArray} {a : Fr} (ha : fr a = true) : good (upd f w a) := fun v => by
  unfold upd; split
  · exact ha
  · exact hf v
theorem good_zero : good fun _ => (0, 1) := fun _ => fr_zero
/-! ### adding to a table, putting into a row: the same -/
def orZ (o : Option Fr) : Fr := o.getD (0, 1)
theorem orZ_fr {o : Option Fr} (h : ∀ c, o = some c → fr c = true) : fr (orZ o) = true := by
  cases o with
  | none => exact fr_zero
  | some c => exact h c rfl
abbrev Tb := (ByteArray → Fr) × Bool
def addT (F : Tb) (u : ByteArray × Option Fr) : Tb := (upd F.1 u.1 (orZ (add (F.1 u.1) (orZ u.2))), F.2 || u.2.isNone || (add (F.1 u.1) (orZ u.2)).isNone)
def addsT (F : Tb) (U : List (ByteArray × Option Fr)) : Tb := U.foldl addT F
def putS (l : Ts) (u : ByteArray × Option Fr) : Option Ts := u.2.bind fun a => put l u.1 a
def putsS (l : Ts) (U : List (ByteArray × Option Fr)) : Option Ts := U.foldlM putS l
theorem addT_good {F : Tb} (h : good F.1) {u : ByteArray × Option Fr} (hu : ∀ a, u.2 = some a → fr a = true) : good (addT F u).1 :=
  good_upd h (orZ_fr fun c hc => add_fr hc)
theorem addsT_good : ∀ {U : List (ByteArray × Option Fr)} {F : Tb}, good F.1 → (∀ u ∈ U, ∀ a, u.2 = some a → fr a = true) → good (addsT F U).1
  | [], F, h, _ => h
  | u :: U, F, h, hU => addsT_good (U := U) (addT_good h (hU u List.mem_cons_self)) fun v hv => hU v (List.mem_cons_of_mem _ hv)
theorem addsT_bad : ∀ {U : List (ByteArray × Option Fr)} {F : Tb}, F.2 = true → (addsT F U).2 = true
  | [], F, h => h
  | u :: U, F, h => addsT_bad (U := U) (F := addT F u) (by simp [addT, h])
theorem puts_adds {d n : Nat} : ∀ {U : List (ByteArray × Option Fr)} {l : Ts} {f : ByteArray → Fr}, isTs d n l = true → (∀ w, co l w = f w) → (∀ u ∈ U, isWd d u.1 = true ∧ u.1.size ≤ n ∧ ∀ a, u.2 = some a → fr a = true) →
    (putsS l U = none ∧ (addsT (f, false) U).2 = true) ∨ ∃ l', putsS l U = some l' ∧ (addsT (f, false) U).2 = false ∧ isTs d n l' = true ∧ ∀ w, co l' w = (addsT (f, false) U).1 w
  | [], l, f, h, hc, _ => .inr ⟨l, rfl, rfl, h, hc⟩
  | (w, o) :: U, l, f, h, hc, hU => by
    have hu := hU (w, o) List.mem_cons_self
    have hU' : ∀ u ∈ U, isWd d u.1 = true ∧ u.1.size ≤ n ∧ ∀ a, u.2 = some a → fr a = true := fun u hu => hU u (List.mem_cons_of_mem _ hu)
    cases o with
    | none =>
      left
      refine ⟨rfl, ?_⟩
      show (addsT (addT (f, false) (w, none)) U).2 = true
      exact addsT_bad (by simp [addT])
    | some a =>
      have ha := hu.2.2 a rfl
      rcases put_co h hu.1 hu.2.1 ha with ⟨e1, e2⟩ | ⟨l', s, e1, e2, e3, e4, _⟩
      · left
        constructor
        · show (List.foldlM putS l ((w, some a) :: U)) = none
          rw [List.foldlM_cons]; simp [putS, e1]
        · show (addsT (addT (f, false) (w, some a)) U).2 = true
          refine addsT_bad ?_
          simp only [addT, orZ, Option.getD_some]
          rw [hc] at e2
          simp [e2]
      · rw [hc] at e2
        have eF : addT (f, false) (w, some a) = (upd f w s, false) := by
          simp only [addT, orZ, Option.getD_some, e2]; rfl
        have ep : putsS l ((w, some a) :: U) = putsS l' U := by
          show (List.foldlM putS l ((w, some a) :: U)) = _
          rw [List.foldlM_cons]; simp [putS, e1]; rfl
        have ea : addsT (f, false) ((w, some a) :: U) = addsT (upd f w s, false) U := by
          show addsT (addT (f, false) (w, some a)) U = _
          rw [eF]
        rw [ep, ea]
        exact puts_adds e3 (fun v => by rw [e4]; unfold upd; split <;> simp [hc]) hU'
theorem ahead_le {d k : Nat} (hd : d ≤ 3) (hk : k ≤ 8) : ahead d k ≤ 10000 := by
  have : ∀ j, ahead d j ≤ ahead 3 j := fun j => by
    induction j with
    | zero => exact Nat.le_refl _
    | succ j ih => rw [ahead, ahead]; exact Nat.add_le_add ih (Nat.pow_le_pow_left hd j)
  exact Nat.le_trans (this k) (Nat.le_trans (ahead_mono 3 hk) (by decide))
end Go.Proofs.Ytibjkjhpfmmjoaa.M
namespace Go.Proofs.Ytibjkjhpfmmjoaa.M
set_option linter.unusedVariables false
theorem allW_inj {d n : Nat} (hd : d ≤ 9) {i j : Nat} {s : ByteArray} (hi : (allW d n)[i]? = some s) (hj : (allW d n)[j]? = some s) : i = j := by
  have h := allW_srt hd n
  rw [List.pairwise_iff_getElem] at h
  obtain ⟨hi1, hi2⟩ := List.getElem?_eq_some_iff.1 hi
  obtain ⟨hj1, hj2⟩ := List.getElem?_eq_some_iff.1 hj
  rcases Nat.lt_trichotomy i j with h1 | h1 | h1
  · have := h i j hi1 hj1 h1; rw [hi2, hj2, bef_irrefl] at this; cases this
  · exact h1
  · have := h j i hj1 hi1 h1; rw [hi2, hj2, bef_irrefl] at this; cases this
abbrev Rs := Int × Int × Ts × Int
def noS (c : Int) : Rs := (0, 0, [], c)
def toldR (d n : Nat) (F : Tb) : Rs := if F.2 = true then noS 3 else ((d : Int), (n : Int), tabT d n F.1, 0)
def mapS (h : ByteArray → Option Fr) (F : Tb) (s : ByteArray) : Tb := (upd F.1 s (orZ (h s)), F.2 || (h s).isNone)
def mapT (d n : Nat) (h : ByteArray → Option Fr) (bad : Bool) (k : Nat) : Tb := ((allW d n).take k).foldl (mapS h) ((fun _ => (0, 1)), bad)
theorem mapT_succ {d n : Nat} {h : ByteArray → Option Fr} {bad : Bool} {k : Nat} {s : ByteArray} (hs : (allW d n)[k]? = some s) : mapT d n h bad (k + 1) = mapS h (mapT d n h bad k) s := by
  unfold mapT
  rw [List.take_add_one, hs, List.foldl_append]
  rfl
theorem num_at {d n : Nat} (hd : d ≤ 9) {k : Nat} {s : ByteArray} (hs : (allW d n)[k]? = some s) : isWd d s = true ∧ s.size ≤ n ∧ num d s = k := by
  obtain ⟨h1, h2⟩ := (allW_mem hd).1 (List.mem_of_getElem? hs)
  exact ⟨h1, h2, allW_inj hd (allW_get h1 h2) hs⟩
abbrev eps : ByteArray := ⟨#[]⟩
abbrev unitT : Ts := [(eps, 1, 1)]
abbrev Rf := Int × Int × Int
theorem isS_l {d n : Int} {l : Ts} (h : isS d n l = true) : lev d n = true := by rw [isS, Bool.and_eq_true] at h; exact h.1
theorem isS_t {d n : Int} {l : Ts} (h : isS d n l = true) : isTs d.toNat n.toNat l = true := by rw [isS, Bool.and_eq_true] at h; exact h.2
def resQ (d n : Int) : Option Ts → Int × Int × Ts × Bool
  | none => (0, 0, [], false)
  | some y => (d, n, y, true)
theorem isTs_small {d n : Nat} {l : Ts} (h : isTs d n l = true) : ∀ t ∈ l, small t.2 := fun t ht => fr_small (isTm_fr ((isTs_iff.1 h).1 t ht)).1
theorem isTs_bnd {d n : Nat} (hd : d ≤ 3) (hn : n ≤ 5) {l : Ts} (h : isTs d n l = true) : bnd l = true := by
  have h1 := ts_length_le (by omega) h
  have h2 := ahead_le hd (k := n + 1) (by omega)
  refine bnd_iff.2 ⟨by omega, fun t ht => ?_⟩
  have := (isTm_fr ((isTs_iff.1 h).1 t ht)).2.2.2
  omega
theorem tabT_unit {d n : Nat} (hd : d ≤ 9) : tabT d n (upd (fun _ => (0, 1)) eps (1, 1)) = unitT := by
  have hg : good (upd (fun _ => ((0, 1) : Fr)) eps (1, 1)) := good_upd good_zero (by decide)
  refine (eq_tabT hd ?_ hg ?_).symm
  · rw [isTs_iff]
    refine ⟨fun t ht => ?_, by simp [Srt]⟩
    obtain rfl := List.mem_singleton.1 ht
    exact isTm_mk (by rfl) (Nat.zero_le _) (by decide) (by decide)
  · intro w _ _
    rw [co_cons]
    unfold upd
    by_cases h : w = eps
    · subst h; rfl
    · rw [if_neg (fun e => h e.symm), if_neg h]; rfl
end Go.Proofs.Ytibjkjhpfmmjoaa.M
namespace Go.Proofs.Ytibjkjhpfmmjoaa.M
set_option linter.unusedVariables false
def Rel (d n : Nat) (o : Option Ts) (F : Tb) : Prop := (o = none ∧ F.2 = true) ∨ ∃ l, o = some l ∧ F.2 = false ∧ isTs d n l = true ∧ ∀ w, isWd d w = true → w.size ≤ n → co l w = F.1 w
def resO (d n : Int) : Option Ts → Rs
  | none => noS 3
  | some l => (d, n, l, 0)
theorem Rel.told {d n : Nat} (hd : d ≤ 9) {o : Option Ts} {F : Tb} (hF : good F.1) (h : Rel d n o F) : toldR d n F = resO d n o := by
  unfold toldR
  rcases h with ⟨rfl, h⟩ | ⟨l, rfl, h1, h2, h3⟩
  · rw [if_pos h]; rfl
  · rw [if_neg (by rw [h1]; decide), ← eq_tabT hd h2 hF h3]; rfl
theorem resO_len {d n : Int} {d' n' : Nat} {o : Option Ts} {F : Tb} (hd : d' ≤ 3) (hn : n' ≤ 5) (h : Rel d' n' o F) : (resO d n o).2.2.1.length ≤ 1048576 := by
  rcases h with ⟨rfl, h⟩ | ⟨l, rfl, h1, h2, h3⟩
  · show (0 : Nat) ≤ _; decide
  · have := ts_length_le (by omega) h2
    have := ahead_le hd (k := n' + 1) (by omega)
    show l.length ≤ _
    omega
theorem foldM_next {α β : Type} (g : β → α → Option β) (l : List α) (b : β) {i : Nat} (h : i < l.length) : (l.take (i + 1)).foldlM g b = ((l.take i).foldlM g b).bind fun y => g y l[i] := by
  rw [List.take_add_one, List.getElem?_eq_getElem h, List.foldlM_append]
  show (List.foldlM g b (List.take i l) >>= fun s' => List.foldlM g s' [l[i]]) = _
  cases List.foldlM g b (List.take i l) with
  | none => rfl
  | some y =>
    show List.foldlM g y [l[i]] = g y l[i]
    rw [List.foldlM_cons]
    cases g y l[i] <;> rfl
theorem foldM_none {α β : Type} (g : β → α → Option β) (l : List α) (b : β) (i : Nat) (h : (l.take i).foldlM g b = none) : l.foldlM g b = none := by
  conv => lhs; rw [← List.take_append_drop i l]
  rw [List.foldlM_append, h]
  rfl
theorem maps_all (h : ByteArray → Option Fr) : ∀ (l : List ByteArray) (F : Tb), ((∀ w, w ∈ l → (l.foldl (mapS h) F).1 w = orZ (h w)) ∧ (∀ w, ¬ w ∈ l → (l.foldl (mapS h) F).1 w = F.1 w)) ∧ (l.foldl (mapS h) F).2 = (F.2 || l.any fun s => (h s).isNone)
  | [], F => ⟨⟨fun w hw => (by cases hw), fun w _ => rfl⟩, by simp⟩
  | s :: l, F => by
    obtain ⟨⟨h1, h3⟩, h2⟩ := maps_all h l (mapS h F s)
    have hm : ∀ w, w = s → (mapS h F s).1 w = orZ (h w) := fun w e => by unfold mapS upd; rw [e]; simp
    have hk : ∀ w, w ≠ s → (mapS h F s).1 w = F.1 w := fun w e => by unfold mapS upd; simp [e]
    refine ⟨⟨fun w hw => ?_, fun w hw => ?_⟩, ?_⟩
    · rw [List.foldl_cons]
      by_cases hl : w ∈ l
      · exact h1 w hl
      · rw [h3 w hl]
        rcases List.mem_cons.1 hw with e | e
        · exact hm w e
        · exact absurd e hl
    · rw [List.foldl_cons, h3 w (fun e => hw (List.mem_cons_of_mem _ e)), hk w (fun e => hw (e ▸ List.mem_cons_self))]
    · rw [List.foldl_cons, h2, List.any_cons]; unfold mapS; rw [Bool.or_assoc]
theorem mapT_all {d n : Nat} (hd : d ≤ 9) (h : ByteArray → Option Fr) (bad : Bool) : (∀ w, isWd d w = true → w.size ≤ n → (mapT d n h bad (allW d n).length).1 w = orZ (h w)) ∧ (mapT d n h bad (allW d n).length).2 = (bad || (allW d n).any fun s => (h s).isNone) := by
  obtain ⟨⟨h1, _⟩, h2⟩ := maps_all h (allW d n) ((fun _ => (0, 1)), bad)
  unfold mapT
  rw [List.take_length]
  exact ⟨fun w hw hn => h1 w ((allW_mem hd).2 ⟨hw, hn⟩), h2⟩
theorem mapT_good {d n : Nat} {h : ByteArray → Option Fr} (hh : ∀ s c, h s = some c → fr c = true) (bad : Bool) (k : Nat) : good (mapT d n h bad k).1 := fun w => by
  obtain ⟨⟨h1, h3⟩, _⟩ := maps_all h ((allW d n).take k) ((fun _ => (0, 1)), bad)
  unfold mapT
  by_cases hw : w ∈ (allW d n).take k
  · rw [h1 w hw]; exact orZ_fr (hh w)
  · rw [h3 w hw]; exact fr_zero
theorem rel_map {d n : Nat} (hd : d ≤ 9) {h : ByteArray → Option Fr} {l : Ts} (hl : isTs d n l = true) (hb : ∀ s, isWd d s = true → s.size ≤ n → h s = some (co l s)) : Rel d n (some l) (mapT d n h false (allW d n).length) := by
  obtain ⟨h1, h2⟩ := mapT_all (n := n) hd h false
  refine .inr ⟨l, rfl, ?_, hl, fun w hw hn => ?_⟩
  · rw [h2, Bool.false_or, List.any_eq_false]
    intro s hs
    obtain ⟨g1, g2⟩ := (allW_mem hd).1 hs
    rw [hb s g1 g2]; simp
  · rw [h1 w hw hn, hb w hw hn]; rfl
theorem rel_none {d n : Nat} (hd : d ≤ 9) {h : ByteArray → Option Fr} {s : ByteArray} (hs : isWd d s = true) (hn : s.size ≤ n) (hb : h s = none) (b : Bool) : Rel d n none (mapT d n h b (allW d n).length) := by
  obtain ⟨h1, h2⟩ := mapT_all (n := n) hd h b
  refine .inl ⟨rfl, ?_⟩
  rw [h2, Bool.or_eq_true, List.any_eq_true]
  exact .inr ⟨s, (allW_mem hd).2 ⟨hs, hn⟩, by rw [hb]; rfl⟩
theorem sum_rel {d n : Nat} (hd : d ≤ 9) : ∀ {y x : Ts}, isTs d n x = true → isTs d n y = true → Rel d n (y.foldlM (fun l t => put l t.1 t.2) x) (mapT d n (fun s => add (co x s) (co y s)) false (allW d n).length)
  | [], x, hx, _ => rel_map hd hx fun s _ _ => by rw [co_nil]; exact add_zero_right (co_fr hx s)
  | t :: r, x, hx, hy => by
    obtain ⟨hy1, hy2⟩ := isTs_iff.1 hy
    have hr : isTs d n r = true := isTs_iff.2 ⟨fun u hu => hy1 u (List.mem_cons_of_mem _ hu), (List.pairwise_cons.1 hy2).2⟩
    obtain ⟨z1, z2, z3, z4⟩ := isTm_fr (hy1 t List.mem_cons_self)
    have hrt : co r t.1 = (0, 1) := co_none fun u hu e => bef_ne ((List.pairwise_cons.1 hy2).1 u hu) e.symm
    rw [List.foldlM_cons]
    rcases put_co hx z3 z4 z1 with ⟨e1, e2⟩ | ⟨l', s, e1, e2, e3, e4, _⟩
    · rw [e1]
      exact rel_none hd (h := fun s => add (co x s) (co (t :: r) s)) z3 z4 (by rw [co_cons, if_pos rfl]; exact e2) false
    · rw [e1]
      have ih := sum_rel hd e3 hr
      have hs : fr s = true := add_fr e2
      have : (fun s => add (co l' s) (co r s)) = fun s => add (co x s) (co (t :: r) s) := by
        funext u
        rw [e4, co_cons]
        unfold upd
        by_cases e : u = t.1
        · subst e; rw [if_pos rfl, if_pos rfl, hrt, add_zero_right hs, e2]
        · rw [if_neg e, if_neg (fun h => e h.symm)]
      rw [this] at ih
      exact ih
/-! multiples -/
theorem frac_zero_num {b : Int} (h : 0 < b) : frac 0 b = some (0, 1) := by
  have e : sgd 0 b = b := by
    unfold sgd
    rw [if_neg (by omega), Int.gcd_zero_left]
    omega
  have h1 : rnum 0 b = 0 := by unfold rnum; rw [Int.zero_tdiv]
  have h2 : rden 0 b = 1 := by unfold rden; rw [e, Int.tdiv_self (by omega)]
  have h3 : okN 0 b = true := by unfold okN; rw [h1, h2]; decide
  rw [frac_ok (by omega) h3, h1, h2]
theorem mul_zero_left {a : Fr} (h : fr a = true) : mul (0, 1) a = some (0, 1) := by
  unfold mul
  rw [Int.zero_mul, Int.one_mul]
  exact frac_zero_num (by have := fr_den h; omega)
theorem mul_zero_right {a : Fr} (h : fr a = true) : mul a (0, 1) = some (0, 1) := by
  unfold mul
  rw [Int.mul_zero, Int.mul_one]
  exact frac_zero_num (by have := fr_den h; omega)
theorem rnum_ne {a b : Int} (ha : a ≠ 0) (hb : b ≠ 0) : rnum a b ≠ 0 := by
  have hg : sgd a b ∣ a := by
    unfold sgd
    split
    · exact (Int.neg_dvd).2 (Int.gcd_dvd_left ..)
    · exact Int.gcd_dvd_left ..
  obtain ⟨k, hk⟩ := hg
  have hs := sgd_ne (a := a) hb
  unfold rnum
  intro h0
  generalize sgd a b = q at hk hs h0
  have h1 : Int.tdiv a q = k := by rw [hk]; exact Int.mul_tdiv_cancel_left _ hs
  rw [h1] at h0
  rw [h0, Int.mul_zero] at hk
  exact ha hk
theorem mul_ne {a b c : Fr} (h : mul a b = some c) (ha : a.1 ≠ 0) (hb : b.1 ≠ 0) : c.1 ≠ 0 := by
  unfold mul frac at h
  split at h
  · rename_i hc
    injection h with h
    rw [← h]
    exact rnum_ne (Int.mul_ne_zero ha hb) hc.1
  · cases h
def scF (a : Fr) (y : Ts) (t : Tm) : Option Ts := (mul t.2 a).map fun c => y ++ [(t.1, c)]
def scS (l : Ts) (a : Fr) : Option Ts := if a.1 = 0 then some [] else l.foldlM (scF a) []
theorem co_map (g : Fr → Fr) (h0 : g (0, 1) = (0, 1)) (l : Ts) (w : ByteArray) : co (l.map fun t => (t.1, g t.2)) w = g (co l w) := by
  induction l with
  | nil => exact h0.symm
  | cons t r ih =>
    rw [List.map_cons, co_cons, co_cons, ih]
    split <;> rfl
theorem scF_all (a : Fr) : ∀ (l y : Ts), (l.foldlM (scF a) y = none ∧ ∃ t ∈ l, mul t.2 a = none) ∨ (l.foldlM (scF a) y = some (y ++ l.map fun t => (t.1, orZ (mul t.2 a))) ∧ ∀ t ∈ l, mul t.2 a ≠ none)
  | [], y => .inr ⟨by simp, fun _ h => by cases h⟩
  | t :: r, y => by
    rw [List.foldlM_cons]
    unfold scF
    cases hm : mul t.2 a with
    | none => exact .inl ⟨rfl, t, List.mem_cons_self, hm⟩
    | some c =>
      have ih := scF_all a r (y ++ [(t.1, c)])
      rcases ih with ⟨e, u, hu, hn⟩ | ⟨e, hn⟩
      · exact .inl ⟨e, u, List.mem_cons_of_mem _ hu, hn⟩
      · refine .inr ⟨?_, fun u hu => ?_⟩
        · show List.foldlM (scF a) (y ++ [(t.1, c)]) r = _
          rw [e, List.map_cons, hm]
          simp [orZ]
        · rcases List.mem_cons.1 hu with rfl | hu
          · rw [hm]; simp
          · exact hn u hu
theorem map_ts {d n : Nat} {l : Ts} (hl : isTs d n l = true) {g : Fr → Fr} (hg : ∀ t ∈ l, fr (g t.2) = true ∧ (g t.2).1 ≠ 0) : isTs d n (l.map fun t => (t.1, g t.2)) = true := by
  obtain ⟨h1, h2⟩ := isTs_iff.1 hl
  refine isTs_iff.2 ⟨fun t ht => ?_, ?_⟩
  · obtain ⟨u, hu, rfl⟩ := List.mem_map.1 ht
    obtain ⟨_, _, z3, z4⟩ := isTm_fr (h1 u hu)
    exact isTm_mk z3 z4 (hg u hu).1 (hg u hu).2
  · unfold Srt
    rw [List.pairwise_map]
    exact h2
theorem scale_rel {d n : Nat} (hd : d ≤ 9) {l : Ts} {a : Fr} (hl : isTs d n l = true) (ha : fr a = true) : Rel d n (scS l a) (mapT d n (fun s => mul (co l s) a) false (allW d n).length) := by
  obtain ⟨h1, h2⟩ := isTs_iff.1 hl
  unfold scS
  by_cases h0 : a.1 = 0
  · rw [if_pos h0]
    obtain rfl := fr_num0 ha h0
    refine rel_map hd (isTs_iff.2 ⟨fun _ h => (by cases h), List.Pairwise.nil⟩) fun s _ _ => ?_
    rw [co_nil]; exact mul_zero_right (co_fr hl s)
  · rw [if_neg h0]
    rcases scF_all a l [] with ⟨e, t, ht, hn⟩ | ⟨e, hn⟩
    · rw [e]
      obtain ⟨_, _, z3, z4⟩ := isTm_fr (h1 t ht)
      exact rel_none hd (h := fun s => mul (co l s) a) z3 z4 (by rw [co_mem h2 ht]; exact hn) false
    · rw [e, List.nil_append]
      have hg0 : orZ (mul (0, 1) a) = (0, 1) := by rw [mul_zero_left ha]; rfl
      refine rel_map hd (map_ts hl (g := fun b => orZ (mul b a)) fun t ht => ?_) fun s _ _ => ?_
      · obtain ⟨z1, z2, _, _⟩ := isTm_fr (h1 t ht)
        cases hm : mul t.2 a with
        | none => exact absurd hm (hn t ht)
        | some c => exact ⟨mul_fr hm, mul_ne hm z2 h0⟩
      · rw [co_map (fun b => orZ (mul b a)) hg0]
        rcases co_zero_or (l := l) s with e0 | ⟨t, ht, e0, e1⟩
        · rw [e0, mul_zero_left ha]; rfl
        · rw [e1]
          cases hm : mul t.2 a with
          | none => exact absurd hm (hn t ht)
          | some c => rfl
end Go.Proofs.Ytibjkjhpfmmjoaa.M
namespace Go.Proofs.Ytibjkjhpfmmjoaa.M
def putF (l : Ts) (t : Tm) : Option Ts := put l t.1 t.2
def sumS (x y : Ts) : Option Ts := y.foldlM putF x
theorem sum_ts {d n : Nat} : ∀ {y x z : Ts}, isTs d n x = true → (∀ t ∈ y, isTm d n t = true) → y.foldlM putF x = some z → isTs d n z = true
  | [], x, z, hx, _, h => by
    have : x = z := by simpa using h
    rw [← this]; exact hx
  | t :: r, x, z, hx, hy, h => by
    obtain ⟨z1, z2, z3, z4⟩ := isTm_fr (hy t List.mem_cons_self)
    rw [List.foldlM_cons] at h
    unfold putF at h
    rcases put_co hx z3 z4 z1 with ⟨e1, _⟩ | ⟨l', s, e1, _, e3, _, _⟩
    · rw [e1] at h; cases h
    · rw [e1] at h
      exact sum_ts e3 (fun u hu => hy u (List.mem_cons_of_mem _ hu)) h
theorem sum_take {d n : Nat} {y x z : Ts} (hx : isTs d n x = true) (hy : isTs d n y = true) (i : Nat) (h : (y.take i).foldlM putF x = some z) : isTs d n z = true :=
  sum_ts hx (fun t ht => (isTs_iff.1 hy).1 t (List.mem_of_mem_take ht)) h
end Go.Proofs.Ytibjkjhpfmmjoaa.M
namespace Go.Proofs.Ytibjkjhpfmmjoaa.M
set_option linter.unusedVariables false
/-! ### cuts of words -/
theorem bl_wl (s : ByteArray) (k : Nat) : bl (s.extract 0 k) = (bl s).take k := by
  unfold bl
  simp [ByteArray.data_extract, Array.toList_extract]
theorem bl_wr (s : ByteArray) (k : Nat) : bl (s.extract k s.size) = (bl s).drop k := Lib.extract_to_end s k
theorem wl_size {s : ByteArray} {k : Nat} (h : k ≤ s.size) : (s.extract 0 k).size = k := by rw [ByteArray.size_extract]; omega
theorem wr_size (s : ByteArray) (k : Nat) : (s.extract k s.size).size = s.size - k := by rw [ByteArray.size_extract]; omega
theorem wl_wd {d : Nat} {s : ByteArray} (h : isWd d s = true) (k : Nat) : isWd d (s.extract 0 k) = true := by
  unfold isWd isWL at *
  rw [bl_wl]
  rw [List.all_eq_true] at *
  exact fun x hx => h x (List.mem_of_mem_take hx)
theorem wr_wd {d : Nat} {s : ByteArray} (h : isWd d s = true) (k : Nat) : isWd d (s.extract k s.size) = true := by
  unfold isWd isWL at *
  rw [bl_wr]
  rw [List.all_eq_true] at *
  exact fun x hx => h x (List.mem_of_mem_drop hx)
/-! ### what a product adds -/
abbrev Us := List (ByteArray × Option Fr)
def cutU (f g : ByteArray → Fr) (s : ByteArray) (k : Nat) : Us := (List.range k).filterMap fun i => if (f (s.extract 0 i)).1 ≠ 0 ∧ (g (s.extract i s.size)).1 ≠ 0 then some (s, mul (f (s.extract 0 i)) (g (s.extract i s.size))) else none
theorem cutU_zero (f g : ByteArray → Fr) (s : ByteArray) : cutU f g s 0 = [] := rfl
theorem cutU_succ (f g : ByteArray → Fr) (s : ByteArray) (k : Nat) : cutU f g s (k + 1) = cutU f g s k ++ (if (f (s.extract 0 k)).1 ≠ 0 ∧ (g (s.extract k s.size)).1 ≠ 0 then [(s, mul (f (s.extract 0 k)) (g (s.extract k s.size)))] else []) := by
  unfold cutU
  rw [List.range_succ, List.filterMap_append]
  congr 1
  by_cases h : (f (s.extract 0 k)).1 ≠ 0 ∧ (g (s.extract k s.size)).1 ≠ 0
  · rw [if_pos h, List.filterMap_cons, if_pos h]; rfl
  · rw [if_neg h, List.filterMap_cons, if_neg h]; rfl
theorem cutU_skip {f g : ByteArray → Fr} {s : ByteArray} {k : Nat} (h : (f (s.extract 0 k)).1 = 0 ∨ (g (s.extract k s.size)).1 = 0) : cutU f g s (k + 1) = cutU f g s k := by
  rw [cutU_succ, if_neg (by rcases h with h | h <;> simp [h]), List.append_nil]
theorem cutU_take {f g : ByteArray → Fr} {s : ByteArray} {k : Nat} (h1 : (f (s.extract 0 k)).1 ≠ 0) (h2 : (g (s.extract k s.size)).1 ≠ 0) : cutU f g s (k + 1) = cutU f g s k ++ [(s, mul (f (s.extract 0 k)) (g (s.extract k s.size)))] := by
  rw [cutU_succ, if_pos ⟨h1, h2⟩]
def wordU (f g : ByteArray → Fr) (s : ByteArray) : Us := cutU f g s (s.size + 1)
def timesU (f g : ByteArray → Fr) (ws : List ByteArray) : Us := ws.flatMap (wordU f g)
theorem timesU_snoc (f g : ByteArray → Fr) (ws : List ByteArray) (s : ByteArray) : timesU f g (ws ++ [s]) = timesU f g ws ++ wordU f g s := by
  unfold timesU; rw [List.flatMap_append, List.flatMap_cons, List.flatMap_nil, List.append_nil]
theorem cutU_ok {f g : ByteArray → Fr} {s : ByteArray} {k : Nat} : ∀ u ∈ cutU f g s k, u.1 = s ∧ ∀ a, u.2 = some a → fr a = true := by
  intro u hu
  unfold cutU at hu
  obtain ⟨i, _, h⟩ := List.mem_filterMap.1 hu
  split at h
  · injection h with h
    subst h
    exact ⟨rfl, fun a ha => mul_fr ha⟩
  · cases h
theorem timesU_ok {f g : ByteArray → Fr} {ws : List ByteArray} : ∀ u ∈ timesU f g ws, u.1 ∈ ws ∧ ∀ a, u.2 = some a → fr a = true := by
  intro u hu
  obtain ⟨s, hs, h⟩ := List.mem_flatMap.1 hu
  obtain ⟨h1, h2⟩ := cutU_ok u h
  exact ⟨h1 ▸ hs, h2⟩
theorem timesU_all {d n : Nat} (hd : d ≤ 9) {f g : ByteArray → Fr} : ∀ u ∈ timesU f g (allW d n), isWd d u.1 = true ∧ u.1.size ≤ n ∧ ∀ a, u.2 = some a → fr a = true := by
  intro u hu
  obtain ⟨h1, h2⟩ := timesU_ok u hu
  obtain ⟨h3, h4⟩ := (allW_mem hd).1 h1
  exact ⟨h3, h4, h2⟩
def onW (d n : Nat) (f g : ByteArray → Fr) : Prop := ∀ w, isWd d w = true → w.size ≤ n → f w = g w
theorem cutU_congr {d n : Nat} {f f' g g' : ByteArray → Fr} (hf : onW d n f f') (hg : onW d n g g') {s : ByteArray} (hs : isWd d s = true) (hn : s.size ≤ n) : ∀ k, k ≤ s.size + 1 → cutU f g s k = cutU f' g' s k
  | 0, _ => rfl
  | k + 1, h => by
    rw [cutU_succ, cutU_succ, cutU_congr hf hg hs hn k (by omega), hf _ (wl_wd hs k) (by rw [wl_size (by omega)]; omega), hg _ (wr_wd hs k) (by rw [wr_size]; omega)]
theorem flatMap_same {α β : Type} {g h : α → List β} : ∀ {l : List α}, (∀ a ∈ l, g a = h a) → l.flatMap g = l.flatMap h
  | [], _ => rfl
  | a :: l, e => by rw [List.flatMap_cons, List.flatMap_cons, e a List.mem_cons_self, flatMap_same fun b hb => e b (List.mem_cons_of_mem _ hb)]
theorem timesU_congr {d n : Nat} (hd : d ≤ 9) {f f' g g' : ByteArray → Fr} (hf : onW d n f f') (hg : onW d n g g') : timesU f g (allW d n) = timesU f' g' (allW d n) :=
  flatMap_same fun s hs => by
    obtain ⟨h1, h2⟩ := (allW_mem hd).1 hs
    exact cutU_congr hf hg h1 h2 _ (Nat.le_refl _)
/-! ### rows and tables -/
theorem isTs_nil (d n : Nat) : isTs d n [] = true := isTs_iff.2 ⟨fun _ h => (by cases h), List.Pairwise.nil⟩
theorem rel_use {d n : Nat} {l : Ts} {F : Tb} (h : Rel d n (some l) F) : F.2 = false ∧ isTs d n l = true ∧ onW d n (co l) F.1 := by
  rcases h with ⟨h, _⟩ | ⟨l', h, h1, h2, h3⟩
  · cases h
  · injection h with h
    subst h
    exact ⟨h1, h2, h3⟩
theorem rel_bad {d n : Nat} {F : Tb} (h : Rel d n none F) : F.2 = true := by
  rcases h with ⟨_, h⟩ | ⟨l', h, _⟩
  · exact h
  · cases h
theorem rel_no {d n : Nat} {F : Tb} (h : F.2 = true) : Rel d n none F := .inl ⟨rfl, h⟩
theorem puts_rel {d n : Nat} {l : Ts} {f : ByteArray → Fr} (hl : isTs d n l = true) {U : Us} (hf : ∀ w, co l w = f w) (hU : ∀ u ∈ U, isWd d u.1 = true ∧ u.1.size ≤ n ∧ ∀ a, u.2 = some a → fr a = true) : Rel d n (putsS l U) (addsT (f, false) U) := by
  rcases puts_adds hl hf hU with ⟨h1, h2⟩ | ⟨l', h1, h2, h3, h4⟩
  · exact .inl ⟨h1, h2⟩
  · exact .inr ⟨l', h1, h2, h3, fun w _ _ => h4 w⟩
theorem mapS_fold_congr {h h' : ByteArray → Option Fr} : ∀ (l : List ByteArray) (F : Tb), (∀ s ∈ l, h s = h' s) → l.foldl (mapS h) F = l.foldl (mapS h') F
  | [], F, _ => rfl
  | s :: l, F, e => by
    rw [List.foldl_cons, List.foldl_cons, show mapS h F s = mapS h' F s by unfold mapS; rw [e s List.mem_cons_self]]
    exact mapS_fold_congr l _ fun t ht => e t (List.mem_cons_of_mem _ ht)
theorem mapT_congr {d n : Nat} (hd : d ≤ 9) {h h' : ByteArray → Option Fr} (e : ∀ w, isWd d w = true → w.size ≤ n → h w = h' w) (bad : Bool) : mapT d n h bad (allW d n).length = mapT d n h' bad (allW d n).length := by
  unfold mapT
  rw [List.take_length]
  exact mapS_fold_congr _ _ fun s hs => by
    obtain ⟨h1, h2⟩ := (allW_mem hd).1 hs
    exact e s h1 h2
theorem mapT_bad {d n : Nat} (hd : d ≤ 9) (h : ByteArray → Option Fr) : (mapT d n h true (allW d n).length).2 = true := by
  rw [(mapT_all hd h true).2]; rfl
def two (f : Ts → Ts → Option Ts) (o1 o2 : Option Ts) : Option Ts := o1.bind fun x => o2.bind fun y => f x y
theorem sum_relT {d n : Nat} (hd : d ≤ 9) {o1 o2 : Option Ts} {F G : Tb} (h1 : Rel d n o1 F) (h2 : Rel d n o2 G) : Rel d n (two sumS o1 o2) (mapT d n (fun s => add (F.1 s) (G.1 s)) (F.2 || G.2) (allW d n).length) := by
  cases o1 with
  | none => exact rel_no (by rw [(rel_bad h1)]; exact mapT_bad hd _)
  | some x =>
    cases o2 with
    | none => exact rel_no (by rw [(rel_bad h2), Bool.or_true]; exact mapT_bad hd _)
    | some y =>
      obtain ⟨a1, a2, a3⟩ := (rel_use h1)
      obtain ⟨b1, b2, b3⟩ := (rel_use h2)
      rw [a1, b1, mapT_congr hd (h' := fun s => add (co x s) (co y s)) (fun w hw hn => by rw [a3 w hw hn, b3 w hw hn])]
      exact sum_rel hd a2 b2
theorem scale_relT {d n : Nat} (hd : d ≤ 9) {o : Option Ts} {F : Tb} {a : Fr} (h : Rel d n o F) (ha : fr a = true) : Rel d n (o.bind fun x => scS x a) (mapT d n (fun s => mul (F.1 s) a) F.2 (allW d n).length) := by
  cases o with
  | none => exact rel_no (by rw [(rel_bad h)]; exact mapT_bad hd _)
  | some x =>
    obtain ⟨a1, a2, a3⟩ := (rel_use h)
    rw [a1, mapT_congr hd (h' := fun s => mul (co x s) a) (fun w hw hn => by rw [a3 w hw hn])]
    exact scale_rel hd a2 ha
def timesT (d n : Nat) (F G : Tb) : Tb := addsT ((fun _ => (0, 1)), F.2 || G.2) (timesU F.1 G.1 (allW d n))
def mulS (d n : Nat) (x y : Ts) : Option Ts := putsS [] (timesU (co x) (co y) (allW d n))
theorem timesT_good {d n : Nat} {F G : Tb} : good (timesT d n F G).1 := addsT_good good_zero fun u hu => (timesU_ok u hu).2
theorem mul_rel {d n : Nat} (hd : d ≤ 9) (x y : Ts) : Rel d n (mulS d n x y) (addsT ((fun _ => (0, 1)), false) (timesU (co x) (co y) (allW d n))) :=
  puts_rel (isTs_nil d n) (fun w => co_nil w) (timesU_all hd)
theorem times_relT {d n : Nat} (hd : d ≤ 9) {o1 o2 : Option Ts} {F G : Tb} (h1 : Rel d n o1 F) (h2 : Rel d n o2 G) : Rel d n (two (mulS d n) o1 o2) (timesT d n F G) := by
  unfold timesT
  cases o1 with
  | none => exact rel_no (by rw [(rel_bad h1)]; exact addsT_bad rfl)
  | some x =>
    cases o2 with
    | none => exact rel_no (by rw [(rel_bad h2), Bool.or_true]; exact addsT_bad rfl)
    | some y =>
      obtain ⟨a1, a2, a3⟩ := (rel_use h1)
      obtain ⟨b1, b2, b3⟩ := (rel_use h2)
      rw [a1, b1, ← timesU_congr hd a3 b3]
      exact mul_rel hd x y
theorem mul_ts {d n : Nat} (hd : d ≤ 9) {x y z : Ts} (h : mulS d n x y = some z) : isTs d n z = true := by
  have := mul_rel (n := n) hd x y
  rw [h] at this
  exact (rel_use this).2.1
/-! ### a sum that is made at a word behind all others -/
def tl (s : ByteArray) (a : Fr) : Ts := if a.1 = 0 then [] else [(s, a)]
theorem tl_zero (s : ByteArray) : tl s (0, 1) = [] := rfl
theorem put_tl {s : ByteArray} {a b : Fr} (ha : fr a = true) (hb : fr b = true) : ∀ {z : Ts}, (∀ t ∈ z, bef t.1 s = true) → put (z ++ tl s a) s b = (add a b).map fun c => z ++ tl s c
  | [], _ => by
    unfold tl
    by_cases h : a.1 = 0
    · obtain rfl := fr_num0 ha h
      rw [add_zero_left hb]
      rfl
    · rw [if_neg h, List.nil_append, put, if_neg (by rw [bef_irrefl]; decide), if_pos rfl]
      congr 1
  | t :: z, hz => by
    rw [List.cons_append, put, if_pos (hz t List.mem_cons_self), put_tl ha hb fun u hu => hz u (List.mem_cons_of_mem _ hu)]
    cases add a b <;> rfl
theorem putsS_append (l : Ts) (U V : Us) : putsS l (U ++ V) = (putsS l U).bind fun z => putsS z V := by
  unfold putsS
  rw [List.foldlM_append]
  rfl
theorem putsS_one (l : Ts) (u : ByteArray × Option Fr) : putsS l [u] = putS l u := by
  unfold putsS
  rw [List.foldlM_cons]
  cases putS l u <;> rfl
theorem put_words {l l' : Ts} {s : ByteArray} {a : Fr} (h : put l s a = some l') : ∀ t ∈ l', t.1 = s ∨ ∃ u ∈ l, u.1 = t.1 := by
  induction l generalizing l' with
  | nil =>
    intro t ht
    rw [put] at h
    injection h with h
    rw [← h] at ht
    split at ht
    · cases ht
    · exact .inl (by rw [List.mem_singleton.1 ht])
  | cons x r ih =>
    intro t ht
    rw [put] at h
    split at h
    · cases hp : put r s a with
      | none => rw [hp] at h; cases h
      | some r' =>
        rw [hp] at h
        injection h with h
        rw [← h] at ht
        rcases List.mem_cons.1 ht with rfl | ht
        · exact .inr ⟨t, List.mem_cons_self, rfl⟩
        · rcases ih hp t ht with e | ⟨u, hu, e⟩
          · exact .inl e
          · exact .inr ⟨u, List.mem_cons_of_mem _ hu, e⟩
    · split at h
      · cases hp : add x.2 a with
        | none => rw [hp] at h; cases h
        | some c =>
          rw [hp] at h
          injection h with h
          have h' : (if c.1 = 0 then r else (s, c) :: r) = l' := h
          rw [← h'] at ht
          split at ht
          · exact .inr ⟨t, List.mem_cons_of_mem _ ht, rfl⟩
          · rcases List.mem_cons.1 ht with rfl | ht
            · exact .inl rfl
            · exact .inr ⟨t, List.mem_cons_of_mem _ ht, rfl⟩
      · injection h with h
        rw [← h] at ht
        split at ht
        · exact .inr ⟨t, ht, rfl⟩
        · rcases List.mem_cons.1 ht with rfl | ht
          · exact .inl rfl
          · exact .inr ⟨t, ht, rfl⟩
theorem puts_words : ∀ {U : Us} {l z : Ts}, putsS l U = some z → ∀ t ∈ z, (∃ u ∈ U, u.1 = t.1) ∨ ∃ u ∈ l, u.1 = t.1
  | [], l, z, h, t, ht => by
    have : l = z := by simpa [putsS] using h
    exact .inr ⟨t, this ▸ ht, rfl⟩
  | u :: U, l, z, h, t, ht => by
    unfold putsS at h
    rw [List.foldlM_cons] at h
    cases hp : putS l u with
    | none => rw [hp] at h; cases h
    | some l' =>
      rw [hp] at h
      rcases puts_words (U := U) (l := l') (z := z) h t ht with ⟨v, hv, e⟩ | ⟨v, hv, e⟩
      · exact .inl ⟨v, List.mem_cons_of_mem _ hv, e⟩
      · unfold putS at hp
        cases hu : u.2 with
        | none => rw [hu] at hp; cases hp
        | some a =>
          rw [hu] at hp
          rcases put_words hp v hv with e2 | ⟨y, hy, e2⟩
          · exact .inl ⟨u, List.mem_cons_self, by rw [← e, e2]⟩
          · exact .inr ⟨y, hy, by rw [e2, e]⟩
theorem times_before {f g : ByteArray → Fr} {ws : List ByteArray} {s : ByteArray} (hs : (ws ++ [s]).Pairwise fun a b => bef a b = true) {z : Ts} (h : putsS [] (timesU f g ws) = some z) : ∀ t ∈ z, bef t.1 s = true := by
  intro t ht
  rcases puts_words h t ht with ⟨u, hu, e⟩ | ⟨u, hu, _⟩
  · rw [← e]
    exact (List.pairwise_append.1 hs).2.2 _ (timesU_ok u hu).1 _ List.mem_cons_self
  · cases hu
end Go.Proofs.Ytibjkjhpfmmjoaa.M
namespace Go.Proofs.Ytibjkjhpfmmjoaa.M
set_option linter.unusedVariables false
theorem mul_swap (a b : Fr) : mul a b = mul b a := by unfold mul; rw [Int.mul_comm a.1, Int.mul_comm a.2]
theorem two_some {f : Ts → Ts → Option Ts} {o1 o2 : Option Ts} {z : Ts} (h : two f o1 o2 = some z) : ∃ x y, o1 = some x ∧ o2 = some y ∧ f x y = some z := by
  cases o1 with
  | none => cases h
  | some x =>
    cases o2 with
    | none => cases h
    | some y => exact ⟨x, y, rfl, rfl, h⟩
theorem unit_ts (d n : Nat) : isTs d n unitT = true := isTs_iff.2 ⟨fun t ht => by obtain rfl := List.mem_singleton.1 ht; exact isTm_mk (by rfl) (Nat.zero_le _) (by decide) (by decide), List.pairwise_singleton _ _⟩
theorem scale_ts {d n : Nat} (hd : d ≤ 9) {x z : Ts} {a : Fr} (hx : isTs d n x = true) (ha : fr a = true) (h : scS x a = some z) : isTs d n z = true := by
  have := scale_rel (n := n) hd hx ha
  rw [h] at this
  exact (rel_use this).2.1
def powO (d n : Nat) (o : Option Ts) : Nat → Option Ts
  | 0 => some unitT
  | k + 1 => two (mulS d n) (powO d n o k) o
theorem pow_ts {d n : Nat} (hd : d ≤ 9) {o : Option Ts} : ∀ {k : Nat} {p : Ts}, powO d n o k = some p → isTs d n p = true
  | 0, p, h => by
    have : unitT = p := Option.some.inj h
    rw [← this]; exact unit_ts d n
  | k + 1, p, h => by
    obtain ⟨x, y, _, _, h3⟩ := two_some h
    exact mul_ts hd h3
def comS (d n : Nat) (x y : Ts) : Option Ts := two sumS (mulS d n x y) ((mulS d n y x).bind fun q => scS q (-1, 1))
def addkS (x y : Ts) (k : Fr) : Option Ts := (scS y k).bind fun r => sumS x r
/-! ### the numbers of the exponential, the logarithm, the inverse -/
end Go.Proofs.Ytibjkjhpfmmjoaa.M
namespace Go.Proofs.Ytibjkjhpfmmjoaa.M
set_option linter.unusedVariables false
theorem allU_split (d : Nat) {m : Nat} : ∀ {n : Nat}, m ≤ n → ∃ r, allU d n = allU d m ++ r
  | 0, h => by obtain rfl : m = 0 := by omega
               exact ⟨[], by simp⟩
  | n + 1, h => by
    by_cases hm : m = n + 1
    · subst hm; exact ⟨[], by simp⟩
    · obtain ⟨r, h1⟩ := allU_split d (n := n) (m := m) (by omega)
      exact ⟨r ++ wordsN d n, by rw [allU_succ, h1, List.append_assoc]⟩
theorem take_split {u : List ByteArray} {i : Nat} {s : ByteArray} (h : u[i]? = some s) : u.take (i + 1) = u.take i ++ [s] ∧ u = u.take i ++ (s :: u.drop (i + 1)) := by
  obtain ⟨h1, h2⟩ := List.getElem?_eq_some_iff.1 h
  refine ⟨by rw [List.take_add_one, h]; rfl, ?_⟩
  conv => lhs; rw [← List.take_append_drop i u, List.drop_eq_getElem_cons h1, h2]
theorem cutU_split (f g : ByteArray → Fr) (s : ByteArray) {k : Nat} : ∀ {j : Nat}, k ≤ j → ∃ r, cutU f g s j = cutU f g s k ++ r
  | 0, h => by obtain rfl : k = 0 := by omega
               exact ⟨[], by simp⟩
  | j + 1, h => by
    by_cases hm : k = j + 1
    · subst hm; exact ⟨[], by simp⟩
    · obtain ⟨r, h1⟩ := cutU_split f g s (j := j) (k := k) (by omega)
      rw [cutU_succ, h1, List.append_assoc]
      exact ⟨_, rfl⟩
theorem timesU_append (f g : ByteArray → Fr) (a b : List ByteArray) : timesU f g (a ++ b) = timesU f g a ++ timesU f g b := by unfold timesU; rw [List.flatMap_append]
theorem mul_fail {d n m i k : Nat} {f g : ByteArray → Fr} {s : ByteArray} (hm : m ≤ n) (hs : (wordsN d m)[i]? = some s) (hk : k ≤ s.size + 1) (h : putsS [] (timesU f g (allU d m ++ (wordsN d m).take i) ++ cutU f g s k) = none) : putsS [] (timesU f g (allW d n)) = none := by
  obtain ⟨r, h1⟩ := allU_split d (m := m + 1) (n := n + 1) (by omega)
  obtain ⟨q, h2⟩ := cutU_split f g s hk
  have e : timesU f g (allW d n) = (timesU f g (allU d m ++ (wordsN d m).take i) ++ cutU f g s k) ++ (q ++ (timesU f g ((wordsN d m).drop (i + 1)) ++ timesU f g r)) := by
    unfold allW
    rw [h1, allU_succ]
    conv => lhs; rw [(take_split hs).2]
    rw [timesU_append, timesU_append, timesU_append, timesU_append]
    have : timesU f g (s :: (wordsN d m).drop (i + 1)) = cutU f g s (s.size + 1) ++ timesU f g ((wordsN d m).drop (i + 1)) := by unfold timesU; rw [List.flatMap_cons]; rfl
    rw [this, h2]
    simp only [List.append_assoc]
  rw [e, putsS_append, h]
  rfl
theorem times_bef {d m i : Nat} (hd : d ≤ 9) {f g : ByteArray → Fr} {s : ByteArray} (hs : (wordsN d m)[i]? = some s) {z : Ts} (h : putsS [] (timesU f g (allU d m ++ (wordsN d m).take i)) = some z) : ∀ t ∈ z, bef t.1 s = true := by
  refine times_before ?_ h
  have hp := allU_srt hd (m + 1)
  rw [allU_succ] at hp
  rw [List.append_assoc, ← (take_split hs).1]
  exact hp.sublist (List.Sublist.append (List.Sublist.refl _) (List.take_sublist _ _))
theorem times_step {f g : ByteArray → Fr} {X : Us} {s : ByteArray} {k : Nat} {z : Ts} {a : Fr} (hz : ∀ t ∈ z, bef t.1 s = true) (ha : fr a = true) (h : putsS [] (X ++ cutU f g s k) = some (z ++ tl s a)) (h1 : (f (s.extract 0 k)).1 ≠ 0) (h2 : (g (s.extract k s.size)).1 ≠ 0) :
    putsS [] (X ++ cutU f g s (k + 1)) = (mul (f (s.extract 0 k)) (g (s.extract k s.size))).bind fun p => (add a p).map fun c => z ++ tl s c := by
  rw [cutU_take h1 h2, ← List.append_assoc, putsS_append, h]
  show putsS (z ++ tl s a) [(s, mul (f (s.extract 0 k)) (g (s.extract k s.size)))] = _
  rw [putsS_one]
  unfold putS
  cases hm : mul (f (s.extract 0 k)) (g (s.extract k s.size)) with
  | none => rfl
  | some p => exact put_tl ha (mul_fr hm) hz
theorem times_skip {f g : ByteArray → Fr} {X : Us} {s : ByteArray} {k : Nat} {o : Option Ts} (h : putsS [] (X ++ cutU f g s k) = o) (h0 : (f (s.extract 0 k)).1 = 0 ∨ (g (s.extract k s.size)).1 = 0) : putsS [] (X ++ cutU f g s (k + 1)) = o := by
  rw [cutU_skip h0]; exact h
theorem times_word {d m i : Nat} {f g : ByteArray → Fr} {s : ByteArray} (hs : (wordsN d m)[i]? = some s) : timesU f g (allU d m ++ (wordsN d m).take (i + 1)) = timesU f g (allU d m ++ (wordsN d m).take i) ++ cutU f g s (s.size + 1) := by
  rw [(take_split hs).1, ← List.append_assoc, timesU_snoc]; rfl
theorem times_row {d m : Nat} {f g : ByteArray → Fr} : timesU f g (allU d m ++ (wordsN d m).take (wordsN d m).length) = timesU f g (allU d (m + 1)) := by
  rw [List.take_length, allU_succ]
theorem add_bad (a : Fr) : add a (0, 0) = none := by
  unfold add
  simp only [Int.mul_zero, Int.zero_mul, Int.add_zero]
  exact frac_zero _
theorem word_at {d m i : Nat} (hd : d ≤ 9) {s : ByteArray} (hs : (wordsN d m)[i]? = some s) : s.size = m ∧ isWd d s = true := wordsN_mem hd (List.mem_of_getElem? hs)
end Go.Proofs.Ytibjkjhpfmmjoaa.M

namespace Go.Proofs.Ytibjkjhpfmmjoaa.M
set_option linter.unusedVariables false
/-! ### sums at one word -/
/-! ### a fraction times a whole number -/
theorem sgd_scale {p q g : Int} (hg : 0 < g) : sgd (p * g) (q * g) = sgd p q * g := by
  have h1 : (Int.gcd (p * g) (q * g) : Int) = (Int.gcd p q : Int) * g := by
    rw [Int.gcd_mul_right, Int.natCast_mul]
    congr 1
    omega
  unfold sgd
  rw [h1]
  by_cases h : q < 0
  · rw [if_pos h, if_pos (Int.mul_neg_of_neg_of_pos h hg), Int.neg_mul]
  · rw [if_neg h, if_neg (by have := Int.mul_nonneg (a := q) (b := g) (by omega) (by omega); omega)]
theorem frac_scale {p q g : Int} (hg : 0 < g) : frac (p * g) (q * g) = frac p q := by
  have h1 : rnum (p * g) (q * g) = rnum p q := by unfold rnum; rw [sgd_scale hg, Int.mul_tdiv_mul_of_pos_left _ _ hg]
  have h2 : rden (p * g) (q * g) = rden p q := by unfold rden; rw [sgd_scale hg, Int.mul_tdiv_mul_of_pos_left _ _ hg]
  unfold frac okN
  rw [h1, h2]
  by_cases h : q = 0
  · subst h; simp
  · have : q * g ≠ 0 := Int.mul_ne_zero h (by omega)
    simp [h, this]
end Go.Proofs.Ytibjkjhpfmmjoaa.M
namespace Go.Proofs.Ytibjkjhpfmmjoaa.M
set_option linter.unusedVariables false
end Go.Proofs.Ytibjkjhpfmmjoaa.M
namespace Go.Proofs.Ytibjkjhpfmmjoaa.M
set_option linter.unusedVariables false
end Go.Proofs.Ytibjkjhpfmmjoaa.M

