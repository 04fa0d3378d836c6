/- Plain facts on words, their order and their numbers, and on rows of terms. Nothing of the program. Conditions: none. -/
import Derived.Test.YtcklblagklojhaaHMath
import Derived.Test.YtcklblagklojhaaHWordsMath
namespace Go.Proofs.Ytcklblagklojhaa.M
set_option linter.unusedVariables false
set_option linter.unusedSimpArgs false

/-! ### words -/
def bl (s : ByteArray) : List UInt8 := s.data.toList
theorem bl_ext {s t : ByteArray} (h : bl s = bl t) : s = t := by
  cases s; cases t; simp only [bl] at h; congr; exact Array.toList_inj.1 h
theorem bl_len (s : ByteArray) : (bl s).length = s.size := by simp [bl]
theorem bl_append (s t : ByteArray) : bl (s ++ t) = bl s ++ bl t := by simp [bl]
theorem bl_empty : bl ⟨#[]⟩ = [] := rfl
theorem bl_letter (q : Nat) : bl (letter q) = [(48 + q).toUInt8] := rfl
/-- A word for d letters. -/
def isWL (d : Nat) (l : List UInt8) : Bool := l.all fun c => decide (48 ≤ c.toNat ∧ c.toNat < 48 + d)
def isWd (d : Nat) (s : ByteArray) : Bool := isWL d (bl s)
theorem letter_nat {q : Nat} (h : q < 10) : (48 + q).toUInt8.toNat = 48 + q := by
  have : (48 + q) % 256 = 48 + q := by omega
  simpa using this

/-! ### the order -/
abbrev bless := Go.Op.bytesLess
theorem bless_irrefl : ∀ l : List UInt8, bless l l = false
  | [] => rfl
  | a :: x => by simp [bless, Go.Op.bytesLess, bless_irrefl x]
theorem bless_trans : ∀ {a b c : List UInt8}, bless a b = true → bless b c = true → bless a c = true
  | _, [], _, h, _ => by cases ‹List UInt8› <;> simp [bless, Go.Op.bytesLess] at h
  | [], b :: y, [], _, k => by simp [bless, Go.Op.bytesLess] at k
  | [], b :: y, c :: z, _, _ => by simp [bless, Go.Op.bytesLess]
  | a :: x, b :: y, [], _, k => by simp [bless, Go.Op.bytesLess] at k
  | a :: x, b :: y, c :: z, h, k => by
    simp only [bless, Go.Op.bytesLess, Bool.or_eq_true, Bool.and_eq_true, decide_eq_true_eq, beq_iff_eq] at h k ⊢
    rcases h with h | ⟨rfl, h⟩
    · rcases k with k | ⟨rfl, k⟩
      · exact .inl (UInt8.lt_trans h k)
      · exact .inl h
    · rcases k with k | ⟨rfl, k⟩
      · exact .inl k
      · exact .inr ⟨rfl, bless_trans h k⟩
theorem bless_tri : ∀ {a b : List UInt8}, bless a b = false → bless b a = false → a = b
  | [], [], _, _ => rfl
  | [], b :: y, h, _ => by simp [bless, Go.Op.bytesLess] at h
  | a :: x, [], _, k => by simp [bless, Go.Op.bytesLess] at k
  | a :: x, b :: y, h, k => by
    simp only [bless, Go.Op.bytesLess, Bool.or_eq_false_iff, Bool.and_eq_false_iff, decide_eq_false_iff_not, beq_eq_false_iff_ne] at h k
    have e : a = b := by
      have h1 : ¬ a.toNat < b.toNat := by simpa [UInt8.lt_iff_toNat_lt] using h.1
      have k1 : ¬ b.toNat < a.toNat := by simpa [UInt8.lt_iff_toNat_lt] using k.1
      exact UInt8.toNat_inj.1 (by omega)
    subst e
    rw [bless_tri (h.2.resolve_left (fun hn => hn rfl)) (k.2.resolve_left (fun hn => hn rfl))]
/-- Words by their lengths, then as texts. -/
def befL (v w : List UInt8) : Bool := if v.length = w.length then bless v w else decide (v.length < w.length)
def bef (v w : ByteArray) : Bool := befL (bl v) (bl w)
theorem befL_irrefl (v : List UInt8) : befL v v = false := by simp [befL, bless_irrefl]
theorem befL_trans {a b c : List UInt8} (h : befL a b = true) (k : befL b c = true) : befL a c = true := by
  unfold befL at *
  by_cases h1 : a.length = b.length <;> by_cases h2 : b.length = c.length
  · rw [if_pos h1] at h; rw [if_pos h2] at k; rw [if_pos (h1.trans h2)]; exact bless_trans h k
  · rw [if_neg h2] at k; rw [if_neg (by omega)]; simp at k ⊢; omega
  · rw [if_neg h1] at h; rw [if_neg (by omega)]; simp at h ⊢; omega
  · rw [if_neg h1] at h; rw [if_neg h2] at k; simp at h k; rw [if_neg (by omega)]; simp; omega
theorem befL_tri {a b : List UInt8} (h : befL a b = false) (k : befL b a = false) : a = b := by
  unfold befL at *
  by_cases h1 : a.length = b.length
  · rw [if_pos h1] at h; rw [if_pos h1.symm] at k; exact bless_tri h k
  · rw [if_neg h1] at h; rw [if_neg (by omega)] at k; simp at h k; omega
theorem bef_irrefl (v : ByteArray) : bef v v = false := befL_irrefl _
theorem bef_trans {a b c : ByteArray} (h : bef a b = true) (k : bef b c = true) : bef a c = true := befL_trans h k
theorem bef_tri {a b : ByteArray} (h : bef a b = false) (k : bef b a = false) : a = b := bl_ext (befL_tri h k)
theorem bef_ne {a b : ByteArray} (h : bef a b = true) : a ≠ b := fun e => by rw [e, bef_irrefl] at h; cases h

/-! ### rows of terms -/
abbrev Tm := ByteArray × Int × Int
abbrev Ts := List Tm
def isTm (d n : Nat) (t : Tm) : Bool := isWd d t.1 && (decide (t.1.size ≤ n) && (isFr t.2.1 t.2.2 && decide (t.2.1 ≠ 0)))
/-- The terms' words ascend. -/
def asc : Ts → Bool
  | a :: b :: r => bef a.1 b.1 && asc (b :: r)
  | _ => true
def isTs (d n : Nat) (l : Ts) : Bool := l.all (isTm d n) && asc l
def Srt (l : Ts) : Prop := l.Pairwise fun a b => bef a.1 b.1 = true
theorem asc_cons {a : Tm} {l : Ts} : asc (a :: l) = true ↔ (∀ b ∈ l.head?, bef a.1 b.1 = true) ∧ asc l = true := by
  cases l with
  | nil => simp [asc]
  | cons b r => simp [asc]
theorem asc_srt : ∀ {l : Ts}, asc l = true ↔ Srt l
  | [] => by simp [asc, Srt]
  | [a] => by simp [asc, Srt]
  | a :: b :: r => by
    have ih := asc_srt (l := b :: r)
    unfold Srt at *
    rw [List.pairwise_cons]
    simp only [asc, Bool.and_eq_true]
    constructor
    · rintro ⟨h1, h2⟩
      have h3 := ih.1 h2
      refine ⟨fun c hc => ?_, h3⟩
      rcases List.mem_cons.1 hc with rfl | hc
      · exact h1
      · exact bef_trans h1 ((List.pairwise_cons.1 h3).1 c hc)
    · rintro ⟨h1, h2⟩
      exact ⟨h1 b List.mem_cons_self, ih.2 h2⟩
theorem isTs_iff {d n : Nat} {l : Ts} : isTs d n l = true ↔ (∀ t ∈ l, isTm d n t = true) ∧ Srt l := by
  unfold isTs; rw [Bool.and_eq_true, List.all_eq_true, asc_srt]
/-- The check, place by place. -/
theorem asc_at : ∀ {l : Ts}, asc l = true ↔ ∀ j, (h : j + 1 < l.length) → bef (l[j]'(by omega)).1 l[j + 1].1 = true
  | [] => by simp [asc]
  | [a] => by simp [asc]
  | a :: b :: r => by
    have ih := asc_at (l := b :: r)
    simp only [asc, Bool.and_eq_true, ih]
    constructor
    · rintro ⟨h1, h2⟩ j hj
      cases j with
      | zero => exact h1
      | succ j => exact h2 j (by simpa using hj)
    · intro h
      exact ⟨h 0 (by simp), fun j hj => h (j + 1) (by simpa using hj)⟩
theorem isTs_at {d n : Nat} {l : Ts} : isTs d n l = true ↔ ∀ j, (h : j < l.length) → isTm d n l[j] = true ∧ (∀ (h0 : 0 < j), bef (l[j - 1]'(by omega)).1 l[j].1 = true) := by
  unfold isTs
  rw [Bool.and_eq_true, List.all_eq_true, asc_at]
  constructor
  · rintro ⟨h1, h2⟩ j hj
    refine ⟨h1 _ (List.getElem_mem _), fun h0 => ?_⟩
    have := h2 (j - 1) (by omega)
    simpa only [Nat.sub_add_cancel h0] using this
  · intro h
    refine ⟨fun t ht => ?_, fun j hj => ?_⟩
    · obtain ⟨j, hj, rfl⟩ := List.getElem_of_mem ht
      exact (h j hj).1
    · have := (h (j + 1) hj).2 (by omega)
      simpa using this

/-- The coefficient at a word. -/
def co (l : Ts) (w : ByteArray) : Fr := match l.find? (fun t => decide (t.1 = w)) with
  | some t => t.2
  | none => (0, 1)
theorem co_nil (w : ByteArray) : co [] w = (0, 1) := rfl
theorem co_cons (t : Tm) (l : Ts) (w : ByteArray) : co (t :: l) w = if t.1 = w then t.2 else co l w := by
  unfold co
  rw [List.find?_cons]
  by_cases h : t.1 = w
  · simp [h]
  · rw [if_neg h, decide_eq_false h]
theorem co_none {l : Ts} {w : ByteArray} (h : ∀ t ∈ l, t.1 ≠ w) : co l w = (0, 1) := by
  induction l with
  | nil => rfl
  | cons t r ih => rw [co_cons, if_neg (h t List.mem_cons_self)]; exact ih fun u hu => h u (List.mem_cons_of_mem _ hu)
theorem co_mem {l : Ts} (hs : Srt l) {t : Tm} (ht : t ∈ l) : co l t.1 = t.2 := by
  induction l with
  | nil => cases ht
  | cons u r ih =>
    obtain ⟨h1, h2⟩ := List.pairwise_cons.1 hs
    rw [co_cons]
    rcases List.mem_cons.1 ht with rfl | ht
    · simp
    · rw [if_neg (bef_ne (h1 t ht))]; exact ih h2 ht
theorem co_zero_or {l : Ts} (w : ByteArray) : co l w = (0, 1) ∨ ∃ t ∈ l, t.1 = w ∧ co l w = t.2 := by
  induction l with
  | nil => exact .inl rfl
  | cons t r ih =>
    rw [co_cons]
    by_cases h : t.1 = w
    · exact .inr ⟨t, List.mem_cons_self, h, by rw [if_pos h]⟩
    · rw [if_neg h]
      rcases ih with e | ⟨u, hu, e, k⟩
      · exact .inl e
      · exact .inr ⟨u, List.mem_cons_of_mem _ hu, e, k⟩
theorem isTm_fr {d n : Nat} {t : Tm} (h : isTm d n t = true) : fr t.2 = true ∧ t.2.1 ≠ 0 ∧ isWd d t.1 = true ∧ t.1.size ≤ n := by
  simp only [isTm, Bool.and_eq_true, decide_eq_true_eq] at h
  exact ⟨h.2.2.1, h.2.2.2, h.1, h.2.1⟩
theorem fr_zero : fr (0, 1) = true := by decide
theorem co_fr {d n : Nat} {l : Ts} (h : isTs d n l = true) (w : ByteArray) : fr (co l w) = true := by
  rcases co_zero_or (l := l) w with e | ⟨t, ht, _, e⟩
  · rw [e]; exact fr_zero
  · rw [e]; exact (isTm_fr ((isTs_iff.1 h).1 t ht)).1
theorem mem_iff_co {d n : Nat} {l : Ts} (h : isTs d n l = true) (t : Tm) : t ∈ l ↔ co l t.1 = t.2 ∧ t.2.1 ≠ 0 := by
  obtain ⟨h1, h2⟩ := isTs_iff.1 h
  constructor
  · intro ht; exact ⟨co_mem h2 ht, (isTm_fr (h1 t ht)).2.1⟩
  · rintro ⟨hc, hn⟩
    rcases co_zero_or (l := l) t.1 with e | ⟨u, hu, e, k⟩
    · rw [e] at hc; rw [← hc] at hn; exact absurd rfl hn
    · have : u = t := Prod.ext e (k.symm.trans hc)
      exact this ▸ hu
/-- Ascending rows with the same terms are the same. -/
theorem srt_ext : ∀ {l m : Ts}, Srt l → Srt m → (∀ t, t ∈ l ↔ t ∈ m) → l = m
  | [], [], _, _, _ => rfl
  | [], b :: m, _, _, h => absurd ((h b).2 List.mem_cons_self) (by simp)
  | a :: l, [], _, _, h => absurd ((h a).1 List.mem_cons_self) (by simp)
  | a :: l, b :: m, hl, hm, h => by
    obtain ⟨l1, l2⟩ := List.pairwise_cons.1 hl
    obtain ⟨m1, m2⟩ := List.pairwise_cons.1 hm
    have e : a = b := by
      rcases List.mem_cons.1 ((h a).1 List.mem_cons_self) with e | ha
      · exact e
      · rcases List.mem_cons.1 ((h b).2 List.mem_cons_self) with e | hb
        · exact e.symm
        · have := bef_trans (m1 a ha) (l1 b hb)
          rw [bef_irrefl] at this; cases this
    subst e
    have : l = m := srt_ext l2 m2 fun t => by
      constructor
      · intro ht
        rcases List.mem_cons.1 ((h t).1 (List.mem_cons_of_mem _ ht)) with rfl | hm
        · have := l1 t ht; rw [bef_irrefl] at this; cases this
        · exact hm
      · intro ht
        rcases List.mem_cons.1 ((h t).2 (List.mem_cons_of_mem _ ht)) with rfl | hm
        · have := m1 t ht; rw [bef_irrefl] at this; cases this
        · exact hm
    rw [this]
theorem ts_ext {d n : Nat} {l m : Ts} (hl : isTs d n l = true) (hm : isTs d n m = true) (h : ∀ w, co l w = co m w) : l = m :=
  srt_ext (isTs_iff.1 hl).2 (isTs_iff.1 hm).2 fun t => by rw [mem_iff_co hl, mem_iff_co hm, h]

/-! ### fractions once more -/
theorem sgd_one {a b : Int} (h : isFr a b = true) : sgd a b = 1 := by
  obtain ⟨h1, h2, h3, h4, h5⟩ := (isFr_iff _ _).1 h
  unfold sgd; rw [if_neg (by omega), h5]; rfl
theorem frac_self {a b : Int} (h : isFr a b = true) : frac a b = some (a, b) := by
  have hs := sgd_one h
  have h1 := ((isFr_iff _ _).1 h).1
  have hn : rnum a b = a := by unfold rnum; rw [hs, Int.tdiv_one]
  have hd : rden a b = b := by unfold rden; rw [hs, Int.tdiv_one]
  rw [frac_ok (by omega) (by unfold okN; rw [hn, hd]; exact h), hn, hd]
theorem add_zero_left {a : Fr} (h : fr a = true) : add (0, 1) a = some a := by
  unfold add
  simp only [Int.zero_mul, Int.mul_one, Int.zero_add, Int.one_mul]
  exact frac_self h
theorem add_zero_right {a : Fr} (h : fr a = true) : add a (0, 1) = some a := by
  unfold add
  simp only [Int.zero_mul, Int.mul_one, Int.add_zero]
  exact frac_self h
theorem fr_num0 {a : Fr} (h : fr a = true) (h0 : a.1 = 0) : a = (0, 1) := by
  obtain ⟨h1, h2, h3, h4, h5⟩ := (isFr_iff _ _).1 h
  rw [h0, Int.gcd_zero_left] at h5
  exact Prod.ext h0 (by simp only; omega)
theorem add_fr {a b c : Fr} (h : add a b = some c) : fr c = true := frac_fr h
theorem mul_fr {a b c : Fr} (h : mul a b = some c) : fr c = true := frac_fr h

/-! ### putting -/
def put : Ts → ByteArray → Fr → Option Ts
  | [], w, a => some (if a.1 = 0 then [] else [(w, a)])
  | t :: r, w, a => if bef t.1 w = true then (put r w a).map (t :: ·) else if t.1 = w then (add t.2 a).map (fun s => if s.1 = 0 then r else (w, s) :: r) else some (if a.1 = 0 then t :: r else (w, a) :: t :: r)
def upd (f : ByteArray → Fr) (w : ByteArray) (a : Fr) : ByteArray → Fr := fun v => if v = w then a else f v
theorem isTm_mk {d n : Nat} {w : ByteArray} {a : Fr} (hw : isWd d w = true) (hn : w.size ≤ n) (ha : fr a = true) (h0 : a.1 ≠ 0) : isTm d n (w, a) = true := by
  unfold isTm; simp only [hw, Bool.true_and, Bool.and_eq_true, decide_eq_true_eq]; exact ⟨hn, ha, h0⟩
theorem put_co : ∀ {d n : Nat} {l : Ts} {w : ByteArray} {a : Fr}, isTs d n l = true → isWd d w = true → w.size ≤ n → fr a = true →
    (put l w a = none ∧ add (co l w) a = none) ∨ ∃ l' s, put l w a = some l' ∧ add (co l w) a = some s ∧ isTs d n l' = true ∧ (∀ v, co l' v = upd (co l) w s v) ∧ (∀ u ∈ l', u.1 = w ∨ ∃ t ∈ l, t.1 = u.1)
  | d, n, [], w, a, h, hw, hn, ha => by
    right
    rw [co_nil, add_zero_left ha]
    refine ⟨_, a, rfl, rfl, ?_, fun v => ?_, ?_⟩
    · by_cases h0 : a.1 = 0
      · rw [if_pos h0]; rfl
      · rw [if_neg h0, isTs_iff]; exact ⟨fun t ht => by rw [List.mem_singleton.1 ht]; exact isTm_mk hw hn ha h0, List.pairwise_singleton _ _⟩
    · unfold upd
      by_cases h0 : a.1 = 0
      · rw [if_pos h0, co_nil, fr_num0 ha h0]; split <;> rfl
      · rw [if_neg h0, co_cons, co_nil]; simp only [eq_comm]
    · by_cases h0 : a.1 = 0
      · rw [if_pos h0]; intro u hu; cases hu
      · rw [if_neg h0]; intro u hu; rw [List.mem_singleton.1 hu]; exact .inl rfl
  | d, n, t :: r, w, a, h, hw, hn, ha => by
    obtain ⟨h1, h2⟩ := isTs_iff.1 h
    obtain ⟨h3, h4⟩ := List.pairwise_cons.1 h2
    have hr : isTs d n r = true := isTs_iff.2 ⟨fun u hu => h1 u (List.mem_cons_of_mem _ hu), h4⟩
    by_cases hb : bef t.1 w = true
    · have hne := bef_ne hb
      rcases put_co hr hw hn ha with ⟨e1, e2⟩ | ⟨l', s, e1, e2, e3, e4, e5⟩
      · left
        refine ⟨by simp only [put, hb, if_true, e1]; rfl, by rw [co_cons, if_neg hne]; exact e2⟩
      · right
        refine ⟨t :: l', s, by simp only [put, hb, if_true, e1]; rfl, by rw [co_cons, if_neg hne]; exact e2, ?_, fun v => ?_, ?_⟩
        · obtain ⟨k1, k2⟩ := isTs_iff.1 e3
          refine isTs_iff.2 ⟨fun u hu => ?_, List.pairwise_cons.2 ⟨fun u hu => ?_, k2⟩⟩
          · rcases List.mem_cons.1 hu with rfl | hu
            · exact h1 _ List.mem_cons_self
            · exact k1 u hu
          · rcases e5 u hu with e | ⟨x, hx, e⟩
            · rw [e]; exact hb
            · rw [← e]; exact h3 x hx
        · rw [co_cons, e4]
          unfold upd
          rw [co_cons]
          by_cases hv : v = w
          · subst hv; rw [if_neg hne]; simp
          · simp only [hv, if_false]
        · intro u hu
          rcases List.mem_cons.1 hu with rfl | hu
          · exact .inr ⟨u, List.mem_cons_self, rfl⟩
          · rcases e5 u hu with e | ⟨x, hx, e⟩
            · exact .inl e
            · exact .inr ⟨x, List.mem_cons_of_mem _ hx, e⟩
    · by_cases he : t.1 = w
      · rw [co_cons, if_pos he]
        cases hs : add t.2 a with
        | none =>
          left
          exact ⟨by simp only [put, hb, he, if_true, hs]; simp [bef_irrefl, hs], rfl⟩
        | some s =>
          right
          have hfs := add_fr hs
          refine ⟨if s.1 = 0 then r else (w, s) :: r, s, by simp only [put]; rw [if_neg hb, if_pos he, hs]; rfl, rfl, ?_, fun v => ?_, ?_⟩
          · by_cases h0 : s.1 = 0
            · rw [if_pos h0]; exact hr
            · rw [if_neg h0]
              refine isTs_iff.2 ⟨fun u hu => ?_, List.pairwise_cons.2 ⟨fun u hu => ?_, h4⟩⟩
              · rcases List.mem_cons.1 hu with rfl | hu
                · exact isTm_mk hw hn hfs h0
                · exact h1 u (List.mem_cons_of_mem _ hu)
              · have := h3 u hu; rw [he] at this; exact this
          · unfold upd
            have hnr : co r w = (0, 1) := co_none fun u hu e => by have := h3 u hu; rw [he, e, bef_irrefl] at this; cases this
            by_cases h0 : s.1 = 0
            · rw [if_pos h0, co_cons, he]
              by_cases hv : v = w
              · subst hv; rw [if_pos rfl, hnr, fr_num0 hfs h0]
              · rw [if_neg hv, if_neg (fun e => hv e.symm)]
            · rw [if_neg h0, co_cons, co_cons, he]
              by_cases hv : v = w
              · subst hv; simp
              · rw [if_neg hv, if_neg (fun e => hv e.symm), if_neg (fun e => hv e.symm)]
          · intro u hu
            by_cases h0 : s.1 = 0
            · rw [if_pos h0] at hu; exact .inr ⟨u, List.mem_cons_of_mem _ hu, rfl⟩
            · rw [if_neg h0] at hu
              rcases List.mem_cons.1 hu with rfl | hu
              · exact .inl rfl
              · exact .inr ⟨u, List.mem_cons_of_mem _ hu, rfl⟩
      · right
        have hlt : bef w t.1 = true := by
          cases hh : bef w t.1 with
          | true => rfl
          | false => exact absurd (bef_tri (by simpa using hb) hh) he
        have hall : ∀ u ∈ t :: r, bef w u.1 = true := fun u hu => by
          rcases List.mem_cons.1 hu with rfl | hu
          · exact hlt
          · exact bef_trans hlt (h3 u hu)
        have hz : co (t :: r) w = (0, 1) := co_none fun u hu e => by have := hall u hu; rw [e, bef_irrefl] at this; cases this
        rw [hz, add_zero_left ha]
        refine ⟨if a.1 = 0 then t :: r else (w, a) :: t :: r, a, by simp only [put]; rw [if_neg hb, if_neg he], rfl, ?_, fun v => ?_, ?_⟩
        · by_cases h0 : a.1 = 0
          · rw [if_pos h0]; exact h
          · rw [if_neg h0]
            refine isTs_iff.2 ⟨fun u hu => ?_, List.pairwise_cons.2 ⟨hall, h2⟩⟩
            rcases List.mem_cons.1 hu with rfl | hu
            · exact isTm_mk hw hn ha h0
            · exact h1 u hu
        · unfold upd
          by_cases h0 : a.1 = 0
          · rw [if_pos h0]
            by_cases hv : v = w
            · subst hv; rw [if_pos rfl, hz, fr_num0 ha h0]
            · rw [if_neg hv]
          · rw [if_neg h0, co_cons (w, a)]
            simp only [eq_comm]
        · intro u hu
          by_cases h0 : a.1 = 0
          · rw [if_pos h0] at hu; exact .inr ⟨u, hu, rfl⟩
          · rw [if_neg h0] at hu
            rcases List.mem_cons.1 hu with rfl | hu
            · exact .inl rfl
            · exact .inr ⟨u, hu, rfl⟩
end Go.Proofs.Ytcklblagklojhaa.M
