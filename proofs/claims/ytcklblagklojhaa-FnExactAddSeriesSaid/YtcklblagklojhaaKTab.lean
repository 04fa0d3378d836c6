/- Plain facts on all words of at most n letters, their numbers, and tables of coefficients. Nothing of the program. Conditions: none. -/
import Derived.Test.YtcklblagklojhaaKMath
namespace Go.Proofs.Ytcklblagklojhaa.M
set_option linter.unusedVariables false
set_option linter.unusedSimpArgs false

/-! ### numbers of words -/
def valL (d : Nat) (l : List UInt8) : Nat := l.foldl (fun v c => v * d + (c.toNat - 48)) 0
/-- The number of words with fewer than k letters. -/
def ahead (d : Nat) : Nat → Nat
  | 0 => 0
  | k + 1 => ahead d k + d ^ k
def num (d : Nat) (s : ByteArray) : Nat := ahead d s.size + valL d (bl s)
/-- All words with fewer than k letters, in order. -/
def allU (d k : Nat) : List ByteArray := (List.range k).flatMap (wordsN d)
def allW (d n : Nat) : List ByteArray := allU d (n + 1)
theorem allU_zero (d : Nat) : allU d 0 = [] := rfl
theorem allU_succ (d k : Nat) : allU d (k + 1) = allU d k ++ wordsN d k := by
  unfold allU; rw [List.range_succ, List.flatMap_append]; simp
theorem allU_length (d k : Nat) : (allU d k).length = ahead d k := by
  induction k with
  | zero => rfl
  | succ k ih => rw [allU_succ, List.length_append, ih, wordsN_length, ahead]
theorem valL_snoc (d : Nat) (l : List UInt8) (c : UInt8) : valL d (l ++ [c]) = valL d l * d + (c.toNat - 48) := by
  unfold valL; rw [List.foldl_append]; rfl
theorem isWL_append (d : Nat) (a b : List UInt8) : isWL d (a ++ b) = (isWL d a && isWL d b) := by unfold isWL; rw [List.all_append]
theorem isWL_one {d : Nat} {c : UInt8} : isWL d [c] = true ↔ 48 ≤ c.toNat ∧ c.toNat < 48 + d := by simp [isWL]
theorem snoc_of {l : List UInt8} {n : Nat} (h : l.length = n + 1) : ∃ m c, l = m ++ [c] ∧ m.length = n := by
  rcases List.eq_nil_or_concat l with e | ⟨m, c, e⟩
  · rw [e] at h; cases h
  · refine ⟨m, c, by rw [e, List.concat_eq_append], ?_⟩
    rw [e, List.concat_eq_append, List.length_append] at h; simpa using h
theorem valL_lt {d : Nat} : ∀ {n : Nat} {l : List UInt8}, l.length = n → isWL d l = true → valL d l < d ^ n
  | 0, l, h, _ => by obtain rfl := List.eq_nil_of_length_eq_zero h; simp [valL]
  | n + 1, l, h, hw => by
    obtain ⟨m, c, rfl, hm⟩ := snoc_of h
    rw [isWL_append, Bool.and_eq_true, isWL_one] at hw
    have ih := valL_lt hm hw.1
    rw [valL_snoc, Nat.pow_succ]
    have h1 : valL d m * d + d ≤ d ^ n * d := by
      have : (valL d m + 1) * d ≤ d ^ n * d := Nat.mul_le_mul_right d ih
      rwa [Nat.add_mul, Nat.one_mul] at this
    omega
theorem flatMap_get {α β : Type} (g : α → List β) (m : Nat) (hg : ∀ a, (g a).length = m) : ∀ (l : List α) (i j : Nat), j < m → (l.flatMap g)[i * m + j]? = (l[i]?).bind fun a => (g a)[j]?
  | [], i, j, h => by simp
  | a :: l, 0, j, h => by
    rw [List.flatMap_cons, Nat.zero_mul, Nat.zero_add, List.getElem?_append_left (by rw [hg]; exact h)]; rfl
  | a :: l, i + 1, j, h => by
    rw [List.flatMap_cons, List.getElem?_append_right (by rw [hg, Nat.succ_mul]; omega), hg]
    have e : (i + 1) * m + j - m = i * m + j := by rw [Nat.succ_mul]; omega
    rw [e, flatMap_get g m hg l i j h]; simp
theorem bl_snoc {s : ByteArray} {m : List UInt8} {q : Nat} (h : bl s = m ++ [(48 + q).toUInt8]) : s = (⟨m.toArray⟩ : ByteArray) ++ letter q := by
  apply bl_ext; rw [bl_append, bl_letter, h]; rfl
theorem digit_of {c : UInt8} {d : Nat} (h : 48 ≤ c.toNat ∧ c.toNat < 48 + d) : c = (48 + (c.toNat - 48)).toUInt8 := by
  have e : 48 + (c.toNat - 48) = c.toNat := by omega
  rw [e]; apply UInt8.toNat_inj.1; simp
theorem wordsN_get {d : Nat} : ∀ {n : Nat} {s : ByteArray}, s.size = n → isWd d s = true → (wordsN d n)[valL d (bl s)]? = some s
  | 0, s, h, _ => by
    have e : bl s = [] := List.eq_nil_of_length_eq_zero (by rw [bl_len, h])
    have e2 : s = ⟨#[]⟩ := bl_ext (by rw [e]; rfl)
    subst e2; rfl
  | n + 1, s, h, hw => by
    obtain ⟨m, c, e, hm⟩ := snoc_of (l := bl s) (n := n) (by rw [bl_len, h])
    have hw' : isWL d (bl s) = true := hw
    rw [e, isWL_append, Bool.and_eq_true, isWL_one] at hw'
    have ih := wordsN_get (d := d) (n := n) (s := ⟨m.toArray⟩) (by rw [← bl_len]; exact hm) hw'.1
    have hq : c.toNat - 48 < d := by omega
    have hc := digit_of hw'.2
    rw [e, valL_snoc, wordsN, nextWords, flatMap_get _ d (by simp) _ _ _ hq]
    have ih' : (wordsN d n)[valL d m]? = some ⟨m.toArray⟩ := ih
    rw [ih']
    simp only [Option.bind_some]
    rw [List.getElem?_map, List.getElem?_range hq]
    simp only [Option.map_some]
    rw [bl_snoc (s := s) (m := m) (q := c.toNat - 48) (by rw [e]; congr 1; rw [← hc])]
theorem ahead_mono (d : Nat) {i j : Nat} (h : i ≤ j) : ahead d i ≤ ahead d j := by
  induction h with
  | refl => exact Nat.le_refl _
  | step _ ih => rw [ahead]; omega
theorem num_lt {d : Nat} {s : ByteArray} {k : Nat} (h : s.size < k) (hw : isWd d s = true) : num d s < ahead d k := by
  have h1 := valL_lt (d := d) (l := bl s) rfl hw
  rw [bl_len] at h1
  have h2 := ahead_mono d (i := s.size + 1) (j := k) h
  rw [ahead] at h2
  unfold num; omega
theorem allU_get {d : Nat} {s : ByteArray} (hw : isWd d s = true) : ∀ {k : Nat}, s.size < k → (allU d k)[num d s]? = some s
  | 0, h => by omega
  | k + 1, h => by
    rw [allU_succ]
    by_cases hk : s.size < k
    · rw [List.getElem?_append_left (by rw [allU_length]; exact num_lt hk hw)]; exact allU_get hw hk
    · obtain rfl : s.size = k := by omega
      rw [List.getElem?_append_right (by rw [allU_length]; unfold num; omega), allU_length]
      have e : num d s - ahead d s.size = valL d (bl s) := by unfold num; omega
      rw [e]; exact wordsN_get rfl hw
theorem wordsN_mem {d : Nat} (hd : d ≤ 9) : ∀ {n : Nat} {s : ByteArray}, s ∈ wordsN d n → s.size = n ∧ isWd d s = true
  | 0, s, h => by
    obtain rfl : s = ⟨#[]⟩ := by simpa [wordsN] using h
    exact ⟨rfl, rfl⟩
  | n + 1, s, h => by
    simp only [wordsN, nextWords, List.mem_flatMap, List.mem_map, List.mem_range] at h
    obtain ⟨t, ht, q, hq, rfl⟩ := h
    obtain ⟨h1, h2⟩ := wordsN_mem hd ht
    refine ⟨by rw [← bl_len, bl_append, List.length_append, bl_len, h1]; rfl, ?_⟩
    unfold isWd
    rw [bl_append, isWL_append, Bool.and_eq_true]
    refine ⟨h2, ?_⟩
    rw [bl_letter, isWL_one, letter_nat (by omega)]; omega
theorem allU_mem {d : Nat} (hd : d ≤ 9) : ∀ {k : Nat} {s : ByteArray}, s ∈ allU d k ↔ isWd d s = true ∧ s.size < k
  | 0, s => by simp [allU_zero]
  | k + 1, s => by
    constructor
    · intro h
      rw [allU_succ, List.mem_append] at h
      rcases h with h | h
      · have := (allU_mem hd).1 h; exact ⟨this.1, by omega⟩
      · have := wordsN_mem hd h; exact ⟨this.2, by omega⟩
    · rintro ⟨h1, h2⟩
      exact List.mem_of_getElem? (allU_get h1 h2)
theorem allW_mem {d n : Nat} (hd : d ≤ 9) {s : ByteArray} : s ∈ allW d n ↔ isWd d s = true ∧ s.size ≤ n := by
  unfold allW; rw [allU_mem hd]; constructor <;> rintro ⟨h1, h2⟩ <;> exact ⟨h1, by omega⟩
theorem allW_get {d n : Nat} {s : ByteArray} (hw : isWd d s = true) (h : s.size ≤ n) : (allW d n)[num d s]? = some s := allU_get hw (by omega)
theorem allW_length (d n : Nat) : (allW d n).length = ahead d (n + 1) := allU_length _ _
theorem num_lt' {d n : Nat} {s : ByteArray} (hw : isWd d s = true) (h : s.size ≤ n) : num d s < (allW d n).length := by
  rw [allW_length]; exact num_lt (by omega) hw

/-! ### all words ascend -/
theorem bless_cons_same (c : UInt8) (x y : List UInt8) : bless (c :: x) (c :: y) = bless x y := by simp [bless, Go.Op.bytesLess]
theorem bless_same (l : List UInt8) (x y : List UInt8) : bless (l ++ x) (l ++ y) = bless x y := by
  induction l with
  | nil => rfl
  | cons c l ih => rw [List.cons_append, List.cons_append, bless_cons_same, ih]
theorem bless_append : ∀ {a b : List UInt8} (x y : List UInt8), a.length = b.length → bless a b = true → bless (a ++ x) (b ++ y) = true
  | [], [], _, _, _, h => by simp [bless, Go.Op.bytesLess] at h
  | [], _ :: _, _, _, h, _ => by cases h
  | _ :: _, [], _, _, h, _ => by cases h
  | a :: p, b :: q, x, y, hl, h => by
    simp only [bless, List.cons_append, Go.Op.bytesLess, Bool.or_eq_true, Bool.and_eq_true, decide_eq_true_eq, beq_iff_eq] at h ⊢
    rcases h with h | ⟨rfl, h⟩
    · exact .inl h
    · exact .inr ⟨rfl, bless_append x y (by simpa using hl) h⟩
theorem bless_digit {i j : Nat} (h : i < j) (hj : j < 10) : bless [(48 + i).toUInt8] [(48 + j).toUInt8] = true := by
  have : (48 + i).toUInt8 < (48 + j).toUInt8 := by rw [UInt8.lt_iff_toNat_lt, letter_nat (by omega), letter_nat hj]; omega
  show (decide ((48 + i).toUInt8 < (48 + j).toUInt8) || _) = true
  rw [decide_eq_true this]; rfl
theorem wordsN_srt {d : Nat} (hd : d ≤ 9) : ∀ n, (wordsN d n).Pairwise fun a b => bef a b = true
  | 0 => by simp [wordsN]
  | n + 1 => by
    rw [wordsN, nextWords, List.pairwise_flatMap]
    constructor
    · intro s hs
      rw [List.pairwise_map]
      refine (List.pairwise_lt_range).imp_of_mem ?_
      intro i j hi hj hij
      rw [List.mem_range] at hi hj
      unfold bef befL
      rw [bl_append, bl_append, if_pos (by simp [bl_letter]), bless_same]
      exact bless_digit hij (by omega)
    · refine (wordsN_srt hd n).imp_of_mem ?_
      intro s t hs ht hst x hx y hy
      obtain ⟨i, hi, rfl⟩ := List.mem_map.1 hx
      obtain ⟨j, hj, rfl⟩ := List.mem_map.1 hy
      have h1 : (bl s).length = (bl t).length := by rw [bl_len, bl_len, (wordsN_mem hd hs).1, (wordsN_mem hd ht).1]
      unfold bef befL at hst ⊢
      rw [if_pos h1] at hst
      rw [bl_append, bl_append, if_pos (by simp [bl_letter, h1])]
      exact bless_append _ _ h1 hst
theorem allU_srt {d : Nat} (hd : d ≤ 9) : ∀ k, (allU d k).Pairwise fun a b => bef a b = true
  | 0 => by simp [allU_zero]
  | k + 1 => by
    rw [allU_succ, List.pairwise_append]
    refine ⟨allU_srt hd k, wordsN_srt hd k, fun a ha b hb => ?_⟩
    have h1 := ((allU_mem hd).1 ha).2
    have h2 := (wordsN_mem hd hb).1
    unfold bef befL
    rw [if_neg (by rw [bl_len, bl_len]; omega), bl_len, bl_len]
    simp; omega
theorem allW_srt {d : Nat} (hd : d ≤ 9) (n : Nat) : (allW d n).Pairwise fun a b => bef a b = true := allU_srt hd _

/-! ### tables -/
def good (f : ByteArray → Fr) : Prop := ∀ w, fr (f w) = true
/-- The terms of a table. -/
def tabT (d n : Nat) (f : ByteArray → Fr) : Ts := (allW d n).filterMap fun w => if (f w).1 = 0 then none else some (w, f w)
theorem tabT_mem {d n : Nat} (hd : d ≤ 9) {f : ByteArray → Fr} {t : Tm} : t ∈ tabT d n f ↔ isWd d t.1 = true ∧ t.1.size ≤ n ∧ t.2 = f t.1 ∧ t.2.1 ≠ 0 := by
  unfold tabT
  rw [List.mem_filterMap]
  constructor
  · rintro ⟨w, hw, h⟩
    obtain ⟨h1, h2⟩ := (allW_mem hd).1 hw
    split at h
    · cases h
    · rename_i h0
      injection h with h
      subst h
      exact ⟨h1, h2, rfl, h0⟩
  · rintro ⟨h1, h2, h3, h4⟩
    refine ⟨t.1, (allW_mem hd).2 ⟨h1, h2⟩, ?_⟩
    rw [← h3, if_neg h4]
theorem tabT_is {d n : Nat} (hd : d ≤ 9) {f : ByteArray → Fr} (hf : good f) : isTs d n (tabT d n f) = true := by
  rw [isTs_iff]
  constructor
  · intro t ht
    obtain ⟨h1, h2, h3, h4⟩ := (tabT_mem hd).1 ht
    exact isTm_mk h1 h2 (by rw [h3]; exact hf _) h4
  · unfold Srt tabT
    rw [List.pairwise_filterMap]
    refine (allW_srt hd n).imp ?_
    intro a b hab t ht u hu
    split at ht
    · cases ht
    · split at hu
      · cases hu
      · injection ht with ht; injection hu with hu
        subst ht; subst hu; exact hab
theorem tabT_co {d n : Nat} (hd : d ≤ 9) {f : ByteArray → Fr} (hf : good f) {w : ByteArray} (hw : isWd d w = true) (hn : w.size ≤ n) : co (tabT d n f) w = f w := by
  by_cases h0 : (f w).1 = 0
  · rcases co_zero_or (l := tabT d n f) w with e | ⟨t, ht, e, k⟩
    · rw [e, fr_num0 (hf w) h0]
    · obtain ⟨_, _, h3, h4⟩ := (tabT_mem hd).1 ht
      rw [e] at h3; rw [h3] at h4; exact absurd h0 h4
  · exact co_mem (t := (w, f w)) (isTs_iff.1 (tabT_is hd hf)).2 ((tabT_mem hd).2 ⟨hw, hn, rfl, h0⟩)
theorem co_off {d n : Nat} {l : Ts} (h : isTs d n l = true) {w : ByteArray} (hw : ¬ (isWd d w = true ∧ w.size ≤ n)) : co l w = (0, 1) :=
  co_none fun t ht e => hw (by have := isTm_fr ((isTs_iff.1 h).1 t ht); rw [e] at this; exact ⟨this.2.2.1, this.2.2.2⟩)
/-- A row of terms is the row of the table with its coefficients. -/
theorem eq_tabT {d n : Nat} (hd : d ≤ 9) {l : Ts} {f : ByteArray → Fr} (h : isTs d n l = true) (hf : good f) (hc : ∀ w, isWd d w = true → w.size ≤ n → co l w = f w) : l = tabT d n f :=
  ts_ext h (tabT_is hd hf) fun w => by
    by_cases hw : isWd d w = true ∧ w.size ≤ n
    · rw [hc w hw.1 hw.2, tabT_co hd hf hw.1 hw.2]
    · rw [co_off h hw, co_off (tabT_is hd hf) hw]
theorem good_co {d n : Nat} {l : Ts} (h : isTs d n l = true) : good (co l) := co_fr h
theorem eq_tabT_co {d n : Nat} (hd : d ≤ 9) {l : Ts} (h : isTs d n l = true) : l = tabT d n (co l) := eq_tabT hd h (good_co h) fun _ _ _ => rfl
theorem tabT_length_le (d n : Nat) (f : ByteArray → Fr) : (tabT d n f).length ≤ ahead d (n + 1) := by
  unfold tabT; rw [← allW_length]; exact List.length_filterMap_le _ _
theorem ts_length_le {d n : Nat} (hd : d ≤ 9) {l : Ts} (h : isTs d n l = true) : l.length ≤ ahead d (n + 1) := by
  rw [eq_tabT_co hd h]; exact tabT_length_le _ _ _
theorem good_upd {f : ByteArray → Fr} (hf : good f) {w : ByteArray} {a : Fr} (ha : fr a = true) : good (upd f w a) := fun v => by
  unfold upd; split
  · exact ha
  · exact hf v
theorem good_zero : good fun _ => (0, 1) := fun _ => fr_zero

/-! ### adding to a table, putting into a row: the same -/
/-- What 'check' leaves of a sum or product. -/
def orZ (o : Option Fr) : Fr := o.getD (0, 1)
theorem orZ_fr {o : Option Fr} (h : ∀ c, o = some c → fr c = true) : fr (orZ o) = true := by
  cases o with
  | none => exact fr_zero
  | some c => exact h c rfl
/-- A table and its mark: something has not fitted. -/
abbrev Tb := (ByteArray → Fr) × Bool
/-- One addition at a word; none: what is added has not fitted. -/
def addT (F : Tb) (u : ByteArray × Option Fr) : Tb := (upd F.1 u.1 (orZ (add (F.1 u.1) (orZ u.2))), F.2 || u.2.isNone || (add (F.1 u.1) (orZ u.2)).isNone)
def addsT (F : Tb) (U : List (ByteArray × Option Fr)) : Tb := U.foldl addT F
def putS (l : Ts) (u : ByteArray × Option Fr) : Option Ts := u.2.bind fun a => put l u.1 a
def putsS (l : Ts) (U : List (ByteArray × Option Fr)) : Option Ts := U.foldlM putS l
theorem addT_good {F : Tb} (h : good F.1) {u : ByteArray × Option Fr} (hu : ∀ a, u.2 = some a → fr a = true) : good (addT F u).1 :=
  good_upd h (orZ_fr fun c hc => add_fr hc)
theorem addsT_good : ∀ {U : List (ByteArray × Option Fr)} {F : Tb}, good F.1 → (∀ u ∈ U, ∀ a, u.2 = some a → fr a = true) → good (addsT F U).1
  | [], F, h, _ => h
  | u :: U, F, h, hU => addsT_good (U := U) (addT_good h (hU u List.mem_cons_self)) fun v hv => hU v (List.mem_cons_of_mem _ hv)
theorem addsT_bad : ∀ {U : List (ByteArray × Option Fr)} {F : Tb}, F.2 = true → (addsT F U).2 = true
  | [], F, h => h
  | u :: U, F, h => addsT_bad (U := U) (F := addT F u) (by simp [addT, h])
/-- Row and table go together. -/
theorem puts_adds {d n : Nat} : ∀ {U : List (ByteArray × Option Fr)} {l : Ts} {f : ByteArray → Fr}, isTs d n l = true → (∀ w, co l w = f w) → (∀ u ∈ U, isWd d u.1 = true ∧ u.1.size ≤ n ∧ ∀ a, u.2 = some a → fr a = true) →
    (putsS l U = none ∧ (addsT (f, false) U).2 = true) ∨ ∃ l', putsS l U = some l' ∧ (addsT (f, false) U).2 = false ∧ isTs d n l' = true ∧ ∀ w, co l' w = (addsT (f, false) U).1 w
  | [], l, f, h, hc, _ => .inr ⟨l, rfl, rfl, h, hc⟩
  | (w, o) :: U, l, f, h, hc, hU => by
    have hu := hU (w, o) List.mem_cons_self
    have hU' : ∀ u ∈ U, isWd d u.1 = true ∧ u.1.size ≤ n ∧ ∀ a, u.2 = some a → fr a = true := fun u hu => hU u (List.mem_cons_of_mem _ hu)
    cases o with
    | none =>
      left
      refine ⟨rfl, ?_⟩
      show (addsT (addT (f, false) (w, none)) U).2 = true
      exact addsT_bad (by simp [addT])
    | some a =>
      have ha := hu.2.2 a rfl
      rcases put_co h hu.1 hu.2.1 ha with ⟨e1, e2⟩ | ⟨l', s, e1, e2, e3, e4, _⟩
      · left
        constructor
        · show (List.foldlM putS l ((w, some a) :: U)) = none
          rw [List.foldlM_cons]; simp [putS, e1]
        · show (addsT (addT (f, false) (w, some a)) U).2 = true
          refine addsT_bad ?_
          simp only [addT, orZ, Option.getD_some]
          rw [hc] at e2
          simp [e2]
      · rw [hc] at e2
        have eF : addT (f, false) (w, some a) = (upd f w s, false) := by
          simp only [addT, orZ, Option.getD_some, e2]; rfl
        have ep : putsS l ((w, some a) :: U) = putsS l' U := by
          show (List.foldlM putS l ((w, some a) :: U)) = _
          rw [List.foldlM_cons]; simp [putS, e1]; rfl
        have ea : addsT (f, false) ((w, some a) :: U) = addsT (upd f w s, false) U := by
          show addsT (addT (f, false) (w, some a)) U = _
          rw [eF]
        rw [ep, ea]
        exact puts_adds e3 (fun v => by rw [e4]; unfold upd; split <;> simp [hc]) hU'
theorem ahead_le {d k : Nat} (hd : d ≤ 3) (hk : k ≤ 8) : ahead d k ≤ 10000 := by
  have : ∀ j, ahead d j ≤ ahead 3 j := fun j => by
    induction j with
    | zero => exact Nat.le_refl _
    | succ j ih => rw [ahead, ahead]; exact Nat.add_le_add ih (Nat.pow_le_pow_left hd j)
  exact Nat.le_trans (this k) (Nat.le_trans (ahead_mono 3 hk) (by decide))
end Go.Proofs.Ytcklblagklojhaa.M
