/- Shuffles, pairings, values at shuffles: of rows and of tables that go with them. Conditions: those of series. -/
import Derived.Test.YtaheikponfmdiaaHShufMath
import Derived.Test.YtaheikponfmdiaaKTab
namespace Go.Proofs.Ytaheikponfmdiaa.M
set_option linter.unusedVariables false
theorem hsh_le (v w u : List UInt8) : hsh v w u ≤ sh v w u := by
  cases u with
  | nil => unfold hsh; split <;> first | omega | contradiction
  | cons c u => rw [sh_halves (v := v) (w := w) (u := c :: u) (by simp)]; omega
/-- The number for a shuffle, or a half shuffle. -/
def numS (half : Bool) (v w u : ByteArray) : Nat := if half = true then hsh (bl v) (bl w) (bl u) else sh (bl v) (bl w) (bl u)
theorem numS_le (half : Bool) (v w u : ByteArray) : numS half v w u ≤ sh (bl v) (bl w) (bl u) := by
  unfold numS; split
  · exact hsh_le _ _ _
  · exact Nat.le_refl _
def stepW (half : Bool) (v w : ByteArray) (p : Fr) (z : Ts) (u : ByteArray) : Option Ts := if numS half v w u = 0 then some z else (mul p ((numS half v w u : Nat), 1)).bind fun q => put z u q
def stepB (d n : Nat) (half : Bool) (a : Tm) (z : Ts) (b : Tm) : Option Ts := (mul a.2 b.2).bind fun p => if n < a.1.size + b.1.size then some z else (wordsN d (a.1.size + b.1.size)).foldlM (stepW half a.1 b.1 p) z
def stepA (d n : Nat) (half : Bool) (y : Ts) (z : Ts) (a : Tm) : Option Ts := if half = true ∧ a.1.size = 0 then some z else y.foldlM (stepB d n half a) z
/-- The shuffle, or half shuffle. -/
def shS (d n : Nat) (half : Bool) (x y : Ts) : Option Ts := x.foldlM (stepA d n half y) []
/-- The words of a shuffle. -/
def shW (d : Nat) (v w : ByteArray) : List ByteArray := (wordsN d (v.size + w.size)).filter fun u => decide (0 < sh (bl v) (bl w) (bl u))
theorem foldM_filter {α β : Type} (g : β → α → Option β) (p : α → Bool) : ∀ (l : List α) (b : β), (∀ a ∈ l, p a = false → ∀ y, g y a = some y) → (l.filter p).foldlM g b = l.foldlM g b
  | [], b, _ => rfl
  | a :: l, b, h => by
    have ih := fun b => foldM_filter g p l b fun x hx => h x (List.mem_cons_of_mem _ hx)
    rw [List.filter_cons, List.foldlM_cons]
    by_cases hp : p a = true
    · rw [if_pos hp, List.foldlM_cons]
      congr 1
      funext y
      exact ih y
    · have hp' : p a = false := by simpa using hp
      rw [if_neg hp, h a List.mem_cons_self hp' b, ih]
      rfl
theorem shW_fold (d : Nat) (half : Bool) (v w : ByteArray) (p : Fr) (z : Ts) : (shW d v w).foldlM (stepW half v w p) z = (wordsN d (v.size + w.size)).foldlM (stepW half v w p) z :=
  foldM_filter _ _ _ _ fun u _ h y => by
    have h1 := numS_le half v w u
    have h2 : ¬ 0 < sh (bl v) (bl w) (bl u) := of_decide_eq_false h
    unfold stepW
    rw [if_pos (by omega)]
/-! ### sums at one word -/
/-- The sum of fractions that are told. -/
def accS (U : List (Option Fr)) : Option Fr := U.foldlM (fun s p => p.bind (add s)) (0, 1)
theorem acc_adds (s : ByteArray) : ∀ (U : List (Option Fr)) (f : ByteArray → Fr) (c : Fr), f s = c →
    (U.foldlM (fun s p => p.bind (add s)) c = none ∧ (addsT (f, false) (U.map fun p => (s, p))).2 = true) ∨ ∃ c', U.foldlM (fun s p => p.bind (add s)) c = some c' ∧ (addsT (f, false) (U.map fun p => (s, p))).2 = false ∧ (addsT (f, false) (U.map fun p => (s, p))).1 s = c'
  | [], f, c, h => .inr ⟨c, rfl, rfl, h⟩
  | p :: U, f, c, h => by
    rw [List.foldlM_cons, List.map_cons]
    cases p with
    | none => exact .inl ⟨rfl, addsT_bad (F := addT (f, false) (s, none)) (by simp [addT])⟩
    | some a =>
      show ((add c a >>= fun y => List.foldlM (fun s p => p.bind (add s)) y U) = none ∧ (addsT (addT (f, false) (s, some a)) _).2 = true) ∨ ∃ c', (add c a >>= fun y => List.foldlM (fun s p => p.bind (add s)) y U) = some c' ∧ (addsT (addT (f, false) (s, some a)) _).2 = false ∧ (addsT (addT (f, false) (s, some a)) _).1 s = c'
      cases ha : add c a with
      | none => exact .inl ⟨rfl, addsT_bad (by simp [addT, orZ, h, ha])⟩
      | some c1 =>
        have e : addT (f, false) (s, some a) = (upd f s c1, false) := by simp [addT, orZ, h, ha]
        rw [e]
        exact acc_adds s U (upd f s c1) c1 (by simp [upd])
/-- The pairing. -/
def pairU (x y : Ts) : List (Option Fr) := x.filterMap fun t => if (co y t.1).1 = 0 then none else some (mul t.2 (co y t.1))
def pairS (x y : Ts) : Option Fr := accS (pairU x y)
/-- The value at a shuffle. -/
def atU (d : Nat) (x : Ts) (v w : ByteArray) : List (Option Fr) := (wordsN d (v.size + w.size)).filterMap fun u => if sh (bl v) (bl w) (bl u) = 0 ∨ (co x u).1 = 0 then none else some (mul (co x u) ((sh (bl v) (bl w) (bl u) : Nat), 1))
def atS (d : Nat) (x : Ts) (v w : ByteArray) : Option Fr := accS (atU d x v w)
/-! ### a fraction times a whole number -/
theorem sgd_scale {p q g : Int} (hg : 0 < g) : sgd (p * g) (q * g) = sgd p q * g := by
  have h1 : (Int.gcd (p * g) (q * g) : Int) = (Int.gcd p q : Int) * g := by
    rw [Int.gcd_mul_right, Int.natCast_mul]
    congr 1
    omega
  unfold sgd
  rw [h1]
  by_cases h : q < 0
  · rw [if_pos h, if_pos (Int.mul_neg_of_neg_of_pos h hg), Int.neg_mul]
  · rw [if_neg h, if_neg (by have := Int.mul_nonneg (a := q) (b := g) (by omega) (by omega); omega)]
theorem frac_scale {p q g : Int} (hg : 0 < g) : frac (p * g) (q * g) = frac p q := by
  have h1 : rnum (p * g) (q * g) = rnum p q := by unfold rnum; rw [sgd_scale hg, Int.mul_tdiv_mul_of_pos_left _ _ hg]
  have h2 : rden (p * g) (q * g) = rden p q := by unfold rden; rw [sgd_scale hg, Int.mul_tdiv_mul_of_pos_left _ _ hg]
  unfold frac okN
  rw [h1, h2]
  by_cases h : q = 0
  · subst h; simp
  · have : q * g ≠ 0 := Int.mul_ne_zero h (by omega)
    simp [h, this]
theorem mul_whole {a : Fr} {n g : Int} (hg : 0 < g) (h1 : g ∣ n) (h2 : g ∣ a.2) : frac (a.1 * Int.tdiv n g) (Int.tdiv a.2 g) = mul a (n, 1) := by
  obtain ⟨x, rfl⟩ := h1
  obtain ⟨y, hy⟩ := h2
  rw [← frac_scale hg, Int.mul_tdiv_cancel_left _ (by omega), hy, Int.mul_tdiv_cancel_left _ (by omega)]
  unfold mul
  congr 1
  · rw [Int.mul_assoc, Int.mul_comm x g]
  · show y * g = a.2 * 1
    rw [hy, Int.mul_comm, Int.mul_one]
theorem mul_whole0 {a : Fr} {n : Int} (ha : fr a = true) (h : n = 0 ∨ a.1 = 0) : mul a (n, 1) = some (0, 1) := by
  unfold mul
  have : a.1 * n = 0 := by rcases h with h | h <;> simp [h]
  show frac (a.1 * n) (a.2 * 1) = _
  rw [this, Int.mul_one]
  exact frac_zero_num (by have := fr_den ha; omega)
end Go.Proofs.Ytaheikponfmdiaa.M
namespace Go.Proofs.Ytaheikponfmdiaa.M
set_option linter.unusedVariables false
/-- One pair of terms; a half shuffle passes over an empty first word. -/
def stepC (d n : Nat) (half : Bool) (a : Tm) (z : Ts) (b : Tm) : Option Ts := if half = true ∧ a.1.size = 0 then some z else stepB d n half a z b
theorem foldM_stay {α β : Type} : ∀ (l : List α) (z : β), l.foldlM (fun z _ => some z) z = some z
  | [], z => rfl
  | _ :: l, z => by rw [List.foldlM_cons]; exact foldM_stay l z
theorem stepC_fold (d n : Nat) (half : Bool) (a : Tm) (y z : Ts) : y.foldlM (stepC d n half a) z = stepA d n half y z a := by
  unfold stepA
  by_cases h : half = true ∧ a.1.size = 0
  · have e : stepC d n half a = fun z _ => some z := by funext z b; unfold stepC; rw [if_pos h]
    rw [if_pos h, e, foldM_stay]
  · have e : stepC d n half a = stepB d n half a := by funext z b; unfold stepC; rw [if_neg h]
    rw [if_neg h, e]
theorem foldM_at {α β : Type} {g : β → α → Option β} {l : List α} {b z : β} {i : Nat} {a : α} (hz : (l.take i).foldlM g b = some z) (ha : l[i]? = some a) : (l.take (i + 1)).foldlM g b = g z a := by
  obtain ⟨h1, h2⟩ := List.getElem?_eq_some_iff.1 ha
  rw [foldM_next g l b h1, hz, h2]
  rfl
theorem foldM_fail {α β : Type} {g : β → α → Option β} {l : List α} {b z : β} {i : Nat} {a : α} (hz : (l.take i).foldlM g b = some z) (ha : l[i]? = some a) (h : g z a = none) : l.foldlM g b = none :=
  foldM_none g l b (i + 1) ((foldM_at hz ha).trans h)
theorem sh_fail {d n : Nat} {half : Bool} {x y z0 z1 : Ts} {i j : Nat} {a b : Tm} (h0 : (x.take i).foldlM (stepA d n half y) [] = some z0) (ha : x[i]? = some a) (h1 : (y.take j).foldlM (stepC d n half a) z0 = some z1) (hb : y[j]? = some b) (h : stepC d n half a z1 b = none) : shS d n half x y = none :=
  foldM_fail h0 ha ((stepC_fold d n half a y z0).symm.trans (foldM_fail h1 hb h))
theorem stepC_open {d n : Nat} {half : Bool} {a b : Tm} {z : Ts} {p : Fr} (hh : ¬ (half = true ∧ a.1.size = 0)) (hp : mul a.2 b.2 = some p) (hn : ¬ n < a.1.size + b.1.size) : stepC d n half a z b = (shW d a.1 b.1).foldlM (stepW half a.1 b.1 p) z := by
  unfold stepC stepB
  rw [if_neg hh, hp, shW_fold]
  show (if n < a.1.size + b.1.size then some z else _) = _
  rw [if_neg hn]
theorem stepC_long {d n : Nat} {half : Bool} {a b : Tm} {z : Ts} {p : Fr} (hh : ¬ (half = true ∧ a.1.size = 0)) (hp : mul a.2 b.2 = some p) (hn : n < a.1.size + b.1.size) : stepC d n half a z b = some z := by
  unfold stepC stepB
  rw [if_neg hh, hp]
  show (if n < a.1.size + b.1.size then some z else _) = _
  rw [if_pos hn]
theorem stepC_bad {d n : Nat} {half : Bool} {a b : Tm} {z : Ts} (hh : ¬ (half = true ∧ a.1.size = 0)) (hp : mul a.2 b.2 = none) : stepC d n half a z b = none := by
  unfold stepC stepB
  rw [if_neg hh, hp]
  rfl
theorem stepC_skip {d n : Nat} {half : Bool} {a b : Tm} {z : Ts} (hh : half = true ∧ a.1.size = 0) : stepC d n half a z b = some z := by
  unfold stepC
  rw [if_pos hh]
theorem stepW_zero {half : Bool} {v w u : ByteArray} {p : Fr} {z : Ts} (h : numS half v w u = 0) : stepW half v w p z u = some z := by unfold stepW; rw [if_pos h]
theorem stepW_pos {half : Bool} {v w u : ByteArray} {p : Fr} {z : Ts} (h : ¬ numS half v w u = 0) : stepW half v w p z u = (mul p ((numS half v w u : Nat), 1)).bind fun q => put z u q := by unfold stepW; rw [if_neg h]
theorem shW_mem {d : Nat} {v w u : ByteArray} (hd : d ≤ 9) (h : u ∈ shW d v w) : u.size = v.size + w.size ∧ isWd d u = true := by
  have h1 := (List.mem_filter.1 h).1
  obtain ⟨i, hi⟩ := List.getElem?_of_mem h1
  exact word_at hd hi
end Go.Proofs.Ytaheikponfmdiaa.M
namespace Go.Proofs.Ytaheikponfmdiaa.M
set_option linter.unusedVariables false
theorem shN_le' {v w u : List UInt8} (hu : u.length ≤ 16) : sh v w u ≤ 65536 :=
  Nat.le_trans (sh_le u v w) (Nat.pow_le_pow_right (n := 2) (by omega) hu)
/-- What the words of a pair of terms make. -/
def pairO (half : Bool) (v w : ByteArray) (o : Option Ts) (m : Option Fr) (ws : List ByteArray) : Option Ts := o.bind fun z => m.bind fun p => ws.foldlM (stepW half v w p) z
/-- What the first terms of the second row make with one term of the first one. -/
def foldB (d n : Nat) (half : Bool) (a : Tm) (o : Option Ts) (y : Ts) (j : Nat) : Option Ts := o.bind fun z => (y.take j).foldlM (stepC d n half a) z
/-- What the first terms of the first row make. -/
def foldA (d n : Nat) (half : Bool) (x y : Ts) (i : Nat) : Option Ts := (x.take i).foldlM (stepA d n half y) []
theorem pairO_nil {half : Bool} {v w : ByteArray} {o : Option Ts} {m : Option Fr} : pairO half v w o m [] = m.bind fun _ => o := by
  unfold pairO
  cases o <;> cases m <;> rfl
theorem pairO_next {half : Bool} {v w u : ByteArray} {o : Option Ts} {p : Fr} {ws : List ByteArray} {k : Nat} (hu : ws[k]? = some u) : pairO half v w o (some p) (ws.take (k + 1)) = (pairO half v w o (some p) (ws.take k)).bind fun z => stepW half v w p z u := by
  obtain ⟨h1, h2⟩ := List.getElem?_eq_some_iff.1 hu
  unfold pairO
  cases o with
  | none => rfl
  | some z =>
    show List.foldlM (stepW half v w p) z (ws.take (k + 1)) = Option.bind (List.foldlM (stepW half v w p) z (ws.take k)) _
    rw [foldM_next _ ws z h1, h2]
theorem pairO_zero {half : Bool} {v w u : ByteArray} {o : Option Ts} {m : Option Fr} {ws : List ByteArray} {k : Nat} (hu : ws[k]? = some u) (h0 : numS half v w u = 0) : pairO half v w o m (ws.take (k + 1)) = pairO half v w o m (ws.take k) := by
  cases m with
  | none => unfold pairO; cases o <;> rfl
  | some p =>
    rw [pairO_next hu]
    cases pairO half v w o (some p) (ws.take k) with
    | none => rfl
    | some z => exact stepW_zero h0
theorem rel_word {d n : Nat} {half : Bool} {v w u : ByteArray} {o : Option Ts} {m : Option Fr} {ws : List ByteArray} {k : Nat} {F : Tb} (h : Rel d n (pairO half v w o m (ws.take k)) F) (hF : good F.1) (hu : ws[k]? = some u) (h0 : ¬ numS half v w u = 0) (hs : isWd d u = true) (hn : u.size ≤ n) :
    Rel d n (pairO half v w o m (ws.take (k + 1))) (addT F (u, mul (orZ m) ((numS half v w u : Nat), 1))) ∧ good (addT F (u, mul (orZ m) ((numS half v w u : Nat), 1))).1 := by
  refine ⟨?_, addT_good hF fun a ha => mul_fr ha⟩
  cases m with
  | none =>
    have e : ∀ l, pairO half v w o none l = none := fun l => by unfold pairO; cases o <;> rfl
    rw [e] at h ⊢
    exact rel_no (by have := rel_bad h; simp [addT, this])
  | some p =>
    rw [pairO_next hu]
    have h1 := (rel_add h hF hs hn (p := mul p ((numS half v w u : Nat), 1)) (fun a ha => mul_fr ha)).1
    have e : (fun z => stepW half v w p z u) = fun l => putS l (u, mul p ((numS half v w u : Nat), 1)) := by
      funext z
      rw [stepW_pos h0]
      unfold putS
      cases mul p ((numS half v w u : Nat), 1) <;> rfl
    rw [e]
    exact h1
theorem foldB_zero {d n : Nat} {half : Bool} {a : Tm} {o : Option Ts} {y : Ts} : foldB d n half a o y 0 = o := by
  unfold foldB
  cases o <;> rfl
theorem foldB_next {d n : Nat} {half : Bool} {a b : Tm} {o : Option Ts} {y : Ts} {j : Nat} (hb : y[j]? = some b) : foldB d n half a o y (j + 1) = (foldB d n half a o y j).bind fun z => stepC d n half a z b := by
  obtain ⟨h1, h2⟩ := List.getElem?_eq_some_iff.1 hb
  unfold foldB
  cases o with
  | none => rfl
  | some z =>
    show List.foldlM (stepC d n half a) z (y.take (j + 1)) = Option.bind (List.foldlM (stepC d n half a) z (y.take j)) _
    rw [foldM_next _ y z h1, h2]
theorem foldB_long {d n : Nat} {half : Bool} {a b : Tm} {o : Option Ts} {y : Ts} {j : Nat} (hb : y[j]? = some b) (hh : ¬ (half = true ∧ a.1.size = 0)) (hn : n < a.1.size + b.1.size) : foldB d n half a o y (j + 1) = (mul a.2 b.2).bind fun _ => foldB d n half a o y j := by
  rw [foldB_next hb]
  cases hm : mul a.2 b.2 with
  | none =>
    cases foldB d n half a o y j with
    | none => rfl
    | some z => exact stepC_bad hh hm
  | some p =>
    cases foldB d n half a o y j with
    | none => rfl
    | some z => exact stepC_long hh hm hn
theorem foldB_open {d n : Nat} {half : Bool} {a b : Tm} {o : Option Ts} {y : Ts} {j : Nat} (hb : y[j]? = some b) (hh : ¬ (half = true ∧ a.1.size = 0)) (hn : ¬ n < a.1.size + b.1.size) : foldB d n half a o y (j + 1) = pairO half a.1 b.1 (foldB d n half a o y j) (mul a.2 b.2) (wordsN d (a.1.size + b.1.size)) := by
  rw [foldB_next hb]
  unfold pairO
  cases foldB d n half a o y j with
  | none => rfl
  | some z =>
    show stepC d n half a z b = _
    unfold stepC stepB
    rw [if_neg hh]
    cases mul a.2 b.2 with
    | none => rfl
    | some p =>
      show (if n < a.1.size + b.1.size then some z else _) = _
      rw [if_neg hn]
      rfl
theorem foldA_next {d n : Nat} {half : Bool} {x y : Ts} {i : Nat} {a : Tm} (ha : x[i]? = some a) : foldA d n half x y (i + 1) = foldB d n half a (foldA d n half x y i) y y.length := by
  obtain ⟨h1, h2⟩ := List.getElem?_eq_some_iff.1 ha
  unfold foldA foldB
  rw [foldM_next _ x [] h1, h2, List.take_length]
  congr 1
  funext z
  exact (stepC_fold d n half a y z).symm
theorem foldA_skip {d n : Nat} {half : Bool} {x y : Ts} {i : Nat} {a : Tm} (ha : x[i]? = some a) (hh : half = true ∧ a.1.size = 0) : foldA d n half x y (i + 1) = foldA d n half x y i := by
  obtain ⟨h1, h2⟩ := List.getElem?_eq_some_iff.1 ha
  unfold foldA
  rw [foldM_next _ x [] h1, h2]
  cases (x.take i).foldlM (stepA d n half y) [] with
  | none => rfl
  | some z =>
    show stepA d n half y z a = some z
    unfold stepA
    rw [if_pos hh]
theorem foldA_all {d n : Nat} {half : Bool} {x y : Ts} : foldA d n half x y x.length = shS d n half x y := by
  unfold foldA shS
  rw [List.take_length]
theorem sh_rel {d n : Nat} {half : Bool} {x y : Ts} {i : Nat} {F : Tb} (h : Rel d n (foldA d n half x y i) F) (hi : i = x.length) : Rel d n (shS d n half x y) F := by
  rw [← foldA_all, ← hi]; exact h
theorem put_ts {d n : Nat} {z z' : Ts} {u : ByteArray} {q : Fr} (hz : isTs d n z = true) (hw : isWd d u = true) (hn : u.size ≤ n) (hq : fr q = true) (h : put z u q = some z') : isTs d n z' = true := by
  rcases put_co hz hw hn hq with ⟨e1, _⟩ | ⟨l', s, e1, _, e3, _, _⟩
  · rw [e1] at h; cases h
  · rw [e1] at h; cases h; exact e3
theorem foldM_inv {α β : Type} {g : β → α → Option β} {P : β → Prop} : ∀ {l : List α} {b b' : β}, (∀ a ∈ l, ∀ y y', P y → g y a = some y' → P y') → P b → l.foldlM g b = some b' → P b'
  | [], b, b', _, hb, h => by
    have : b = b' := by simpa using h
    rw [← this]; exact hb
  | a :: l, b, b', hg, hb, h => by
    rw [List.foldlM_cons] at h
    cases h1 : g b a with
    | none => rw [h1] at h; cases h
    | some y =>
      rw [h1] at h
      exact foldM_inv (fun x hx => hg x (List.mem_cons_of_mem _ hx)) (hg a List.mem_cons_self b y hb h1) h
theorem sh_ts {d n : Nat} (hd : d ≤ 9) {half : Bool} {x y z : Ts} (h : shS d n half x y = some z) : isTs d n z = true := by
  refine foldM_inv (P := fun z => isTs d n z = true) (fun a _ z1 z2 h1 h2 => ?_) (isTs_nil d n) h
  unfold stepA at h2
  split at h2
  · cases h2; exact h1
  · refine foldM_inv (P := fun z => isTs d n z = true) (fun b _ z3 z4 h3 h4 => ?_) h1 h2
    unfold stepB at h4
    cases hm : mul a.2 b.2 with
    | none => rw [hm] at h4; cases h4
    | some p =>
      rw [hm] at h4
      have h4' : (if n < a.1.size + b.1.size then some z3 else (wordsN d (a.1.size + b.1.size)).foldlM (stepW half a.1 b.1 p) z3) = some z4 := h4
      split at h4'
      · cases h4'; exact h3
      · rename_i hl
        refine foldM_inv (P := fun z => isTs d n z = true) (fun u hu z5 z6 h5 h6 => ?_) h3 h4'
        obtain ⟨i, hi⟩ := List.getElem?_of_mem hu
        obtain ⟨g1, g2⟩ := word_at hd hi
        by_cases h0 : numS half a.1 b.1 u = 0
        · rw [stepW_zero h0] at h6; cases h6; exact h5
        · rw [stepW_pos h0] at h6
          cases hq : mul p ((numS half a.1 b.1 u : Nat), 1) with
          | none => rw [hq] at h6; cases h6
          | some q =>
            rw [hq] at h6
            exact put_ts h5 g2 (by omega) (mul_fr hq) h6
theorem rel_any {d n : Nat} {o : Option Ts} (h : ∀ z, o = some z → isTs d n z = true) : ∃ F, Rel d n o F := by
  cases o with
  | none => exact ⟨((fun _ => (0, 1)), true), .inl ⟨rfl, rfl⟩⟩
  | some z => exact ⟨(co z, false), .inr ⟨z, rfl, rfl, h z rfl, fun _ _ _ => rfl⟩⟩
def shF (d n : Nat) (x y : Ts) : Option Ts := shS d n false x y
def shH (d n : Nat) (x y : Ts) : Option Ts := shS d n true x y
theorem shF_def (d n : Nat) (x y : Ts) : shS d n false x y = shF d n x y := rfl
theorem shH_def (d n : Nat) (x y : Ts) : shS d n true x y = shH d n x y := rfl
theorem shF_ex (d n : Nat) (x y : Ts) (hd : d ≤ 9) (_ : isTs d n x = true) (_ : isTs d n y = true) : ∃ F, Rel d n (shF d n x y) F := rel_any fun z h => sh_ts hd h
theorem shH_ex (d n : Nat) (x y : Ts) (hd : d ≤ 9) (_ : isTs d n x = true) (_ : isTs d n y = true) : ∃ F, Rel d n (shH d n x y) F := rel_any fun z h => sh_ts hd h
/-- Powers by shuffles. -/
def shP (d n : Nat) (l : Ts) : Nat → Option Ts
  | 0 => some unitT
  | k + 1 => (shP d n l k).bind fun z => shF d n z l
theorem shP_none {d n : Nat} {l : Ts} {i : Nat} (h : shP d n l i = none) : ∀ {j : Nat}, i ≤ j → shP d n l j = none
  | 0, hj => by obtain rfl : i = 0 := by omega
                exact h
  | j + 1, hj => by
    by_cases e : i = j + 1
    · exact e ▸ h
    · rw [shP, shP_none h (j := j) (by omega)]; rfl
theorem shP_ts {d n : Nat} (hd : d ≤ 9) {l z : Ts} {k : Nat} (h : shP d n l k = some z) : isTs d n z = true := by
  cases k with
  | zero => cases h; exact unit_ts d n
  | succ k =>
    rw [shP] at h
    cases hk : shP d n l k with
    | none => rw [hk] at h; cases h
    | some y => rw [hk] at h; exact sh_ts hd h
end Go.Proofs.Ytaheikponfmdiaa.M
