/- Plain facts and contracts of functions that the law's walk uses. Conditions: those that stand in each statement. -/
import Derived.Test.YtibjkjhpfmmjoaaShG1
import Derived.Test.YtibjkjhpfmmjoaaProg
import Derived.Below
import Derived.Deep.Draws
import Derived.Deep.AppendLies
import Derived.Maps.AppendAt
import Derived.OwnWalk
import Derived.Laws.BytesArg
import Derived.Laws.MakeOwn
import Derived.Laws.OwnMore
import Derived.Deep.OwnRows
import Derived.Tactics
import Derived.Lib.ConvBytes
import Derived.Laws.Slices
import Derived.WalkKit
import Derived.KernelRfl
import Derived.RowKit3
import Derived.Deep.LoopGhost
import Derived.Deep.QuietTactic
import Derived.BigQuiet
import Derived.WideLaws
import Derived.Deep.DeepCutAuto
import Derived.Deep.CutBlock
import Derived.Deep.RegionHeld3
import Derived.Laws.Rows
import Derived.Lib.AppendStr
import Derived.ArgAppend
import Derived.Laws.IdiomCopy
import Derived.OrdersHeld
import Derived.Laws.BitsLemmas
import Derived.RowKit
import Derived.Lib.Hide
import Derived.Test.YtibjkjhpfmmjoaaWWords
import Derived.Test.YtibjkjhpfmmjoaaWLast
import Derived.Test.YtibjkjhpfmmjoaaWMore
import Derived.Test.YtibjkjhpfmmjoaaWRepsOne
import Derived.Lib.Bytealg
import Derived.Lib.Walk
import Derived.Deep.Slices
import Derived.Deep.Strs
import Derived.Lib.SmallJoins
import Derived.OpenShut
import Derived.Test.YtibjkjhpfmmjoaaWTab
import Derived.Laws.CopyRow
import Derived.WalkSpells
set_option linter.unusedVariables false
set_option linter.unusedSimpArgs false
namespace Go.Proofs.Ytibjkjhpfmmjoaa.M
set_option linter.unusedVariables false
theorem hsh_le (v w u : List UInt8) : hsh v w u ≤ sh v w u := by
  cases u with
  | nil => unfold hsh; split <;> first | omega | contradiction
  | cons c u => rw [sh_halves (v := v) (w := w) (u := c :: u) (by simp)]; omega
def numS (half : Bool) (v w u : ByteArray) : Nat := if half = true then hsh (bl v) (bl w) (bl u) else sh (bl v) (bl w) (bl u)
theorem numS_le (half : Bool) (v w u : ByteArray) : numS half v w u ≤ sh (bl v) (bl w) (bl u) := by
  unfold numS; split
  · exact hsh_le _ _ _
  · exact Nat.le_refl _
def stepW (half : Bool) (v w : ByteArray) (p : Fr) (z : Ts) (u : ByteArray) : Option Ts := if numS half v w u = 0 then some z else (mul p ((numS half v w u : Nat), 1)).bind fun q => put z u q
def stepB (d n : Nat) (half : Bool) (a : Tm) (z : Ts) (b : Tm) : Option Ts := (mul a.2 b.2).bind fun p => if n < a.1.size + b.1.size then some z else (wordsN d (a.1.size + b.1.size)).foldlM (stepW half a.1 b.1 p) z
def stepA (d n : Nat) (half : Bool) (y : Ts) (z : Ts) (a : Tm) : Option Ts := if half = true ∧ a.1.size = 0 then some z else y.foldlM (stepB d n half a) z
def shS (d n : Nat) (half : Bool) (x y : Ts) : Option Ts := x.foldlM (stepA d n half y) []
def shW (d : Nat) (v w : ByteArray) : List ByteArray := (wordsN d (v.size + w.size)).filter fun u => decide (0 < sh (bl v) (bl w) (bl u))
theorem foldM_filter {α β : Type} (g : β → α → Option β) (p : α → Bool) : ∀ (l : List α) (b : β), (∀ a ∈ l, p a = false → ∀ y, g y a = some y) → (l.filter p).foldlM g b = l.foldlM g b
  | [], b, _ => rfl
  | a :: l, b, h => by
    have ih := fun b => foldM_filter g p l b fun x hx => h x (List.mem_cons_of_mem _ hx)
    rw [List.filter_cons, List.foldlM_cons]
    by_cases hp : p a = true
    · rw [if_pos hp, List.foldlM_cons]
      congr 1
      funext y
      exact ih y
    · have hp' : p a = false := by simpa using hp
      rw [if_neg hp, h a List.mem_cons_self hp' b, ih]
      rfl
theorem shW_fold (d : Nat) (half : Bool) (v w : ByteArray) (p : Fr) (z : Ts) : (shW d v w).foldlM (stepW half v w p) z = (wordsN d (v.size + w.size)).foldlM (stepW half v w p) z :=
  foldM_filter _ _ _ _ fun u _ h y => by
    have h1 := numS_le half v w u
    have h2 : ¬ 0 < sh (bl v) (bl w) (bl u) := of_decide_eq_false h
    unfold stepW
    rw [if_pos (by omega)]
/-! ### sums at one word -/
/-! ### a fraction times a whole number -/
theorem sgd_scale {p q g : Int} (hg : 0 < g) : sgd (p * g) (q * g) = sgd p q * g := by
  have h1 : (Int.gcd (p * g) (q * g) : Int) = (Int.gcd p q : Int) * g := by
    rw [Int.gcd_mul_right, Int.natCast_mul]
    congr 1
    omega
  unfold sgd
  rw [h1]
  by_cases h : q < 0
  · rw [if_pos h, if_pos (Int.mul_neg_of_neg_of_pos h hg), Int.neg_mul]
  · rw [if_neg h, if_neg (by have := Int.mul_nonneg (a := q) (b := g) (by omega) (by omega); omega)]
theorem frac_scale {p q g : Int} (hg : 0 < g) : frac (p * g) (q * g) = frac p q := by
  have h1 : rnum (p * g) (q * g) = rnum p q := by unfold rnum; rw [sgd_scale hg, Int.mul_tdiv_mul_of_pos_left _ _ hg]
  have h2 : rden (p * g) (q * g) = rden p q := by unfold rden; rw [sgd_scale hg, Int.mul_tdiv_mul_of_pos_left _ _ hg]
  unfold frac okN
  rw [h1, h2]
  by_cases h : q = 0
  · subst h; simp
  · have : q * g ≠ 0 := Int.mul_ne_zero h (by omega)
    simp [h, this]
theorem mul_whole {a : Fr} {n g : Int} (hg : 0 < g) (h1 : g ∣ n) (h2 : g ∣ a.2) : frac (a.1 * Int.tdiv n g) (Int.tdiv a.2 g) = mul a (n, 1) := by
  obtain ⟨x, rfl⟩ := h1
  obtain ⟨y, hy⟩ := h2
  rw [← frac_scale hg, Int.mul_tdiv_cancel_left _ (by omega), hy, Int.mul_tdiv_cancel_left _ (by omega)]
  unfold mul
  congr 1
  · rw [Int.mul_assoc, Int.mul_comm x g]
  · show y * g = a.2 * 1
    rw [hy, Int.mul_comm, Int.mul_one]
theorem mul_whole0 {a : Fr} {n : Int} (ha : fr a = true) (h : n = 0 ∨ a.1 = 0) : mul a (n, 1) = some (0, 1) := by
  unfold mul
  have : a.1 * n = 0 := by rcases h with h | h <;> simp [h]
  show frac (a.1 * n) (a.2 * 1) = _
  rw [this, Int.mul_one]
  exact frac_zero_num (by have := fr_den ha; omega)
end Go.Proofs.Ytibjkjhpfmmjoaa.M
namespace Go.Proofs.Ytibjkjhpfmmjoaa.M
set_option linter.unusedVariables false
def stepC (d n : Nat) (half : Bool) (a : Tm) (z : Ts) (b : Tm) : Option Ts := if half = true ∧ a.1.size = 0 then some z else stepB d n half a z b
theorem foldM_stay {α β : Type} : ∀ (l : List α) (z : β), l.foldlM (fun z _ => some z) z = some z
  | [], z => rfl
  | _ :: l, z => by rw [List.foldlM_cons]; exact foldM_stay l z
theorem stepC_fold (d n : Nat) (half : Bool) (a : Tm) (y z : Ts) : y.foldlM (stepC d n half a) z = stepA d n half y z a := by
  unfold stepA
  by_cases h : half = true ∧ a.1.size = 0
  · have e : stepC d n half a = fun z _ => some z := by funext z b; unfold stepC; rw [if_pos h]
    rw [if_pos h, e, foldM_stay]
  · have e : stepC d n half a = stepB d n half a := by funext z b; unfold stepC; rw [if_neg h]
    rw [if_neg h, e]
theorem foldM_at {α β : Type} {g : β → α → Option β} {l : List α} {b z : β} {i : Nat} {a : α} (hz : (l.take i).foldlM g b = some z) (ha : l[i]? = some a) : (l.take (i + 1)).foldlM g b = g z a := by
  obtain ⟨h1, h2⟩ := List.getElem?_eq_some_iff.1 ha
  rw [foldM_next g l b h1, hz, h2]
  rfl
theorem foldM_fail {α β : Type} {g : β → α → Option β} {l : List α} {b z : β} {i : Nat} {a : α} (hz : (l.take i).foldlM g b = some z) (ha : l[i]? = some a) (h : g z a = none) : l.foldlM g b = none :=
  foldM_none g l b (i + 1) ((foldM_at hz ha).trans h)
theorem sh_fail {d n : Nat} {half : Bool} {x y z0 z1 : Ts} {i j : Nat} {a b : Tm} (h0 : (x.take i).foldlM (stepA d n half y) [] = some z0) (ha : x[i]? = some a) (h1 : (y.take j).foldlM (stepC d n half a) z0 = some z1) (hb : y[j]? = some b) (h : stepC d n half a z1 b = none) : shS d n half x y = none :=
  foldM_fail h0 ha ((stepC_fold d n half a y z0).symm.trans (foldM_fail h1 hb h))
theorem stepC_open {d n : Nat} {half : Bool} {a b : Tm} {z : Ts} {p : Fr} (hh : ¬ (half = true ∧ a.1.size = 0)) (hp : mul a.2 b.2 = some p) (hn : ¬ n < a.1.size + b.1.size) : stepC d n half a z b = (shW d a.1 b.1).foldlM (stepW half a.1 b.1 p) z := by
  unfold stepC stepB
  rw [if_neg hh, hp, shW_fold]
  show (if n < a.1.size + b.1.size then some z else _) = _
  rw [if_neg hn]
theorem stepC_long {d n : Nat} {half : Bool} {a b : Tm} {z : Ts} {p : Fr} (hh : ¬ (half = true ∧ a.1.size = 0)) (hp : mul a.2 b.2 = some p) (hn : n < a.1.size + b.1.size) : stepC d n half a z b = some z := by
  unfold stepC stepB
  rw [if_neg hh, hp]
  show (if n < a.1.size + b.1.size then some z else _) = _
  rw [if_pos hn]
theorem stepC_bad {d n : Nat} {half : Bool} {a b : Tm} {z : Ts} (hh : ¬ (half = true ∧ a.1.size = 0)) (hp : mul a.2 b.2 = none) : stepC d n half a z b = none := by
  unfold stepC stepB
  rw [if_neg hh, hp]
  rfl
theorem stepC_skip {d n : Nat} {half : Bool} {a b : Tm} {z : Ts} (hh : half = true ∧ a.1.size = 0) : stepC d n half a z b = some z := by
  unfold stepC
  rw [if_pos hh]
theorem stepW_zero {half : Bool} {v w u : ByteArray} {p : Fr} {z : Ts} (h : numS half v w u = 0) : stepW half v w p z u = some z := by unfold stepW; rw [if_pos h]
theorem stepW_pos {half : Bool} {v w u : ByteArray} {p : Fr} {z : Ts} (h : ¬ numS half v w u = 0) : stepW half v w p z u = (mul p ((numS half v w u : Nat), 1)).bind fun q => put z u q := by unfold stepW; rw [if_neg h]
theorem shW_mem {d : Nat} {v w u : ByteArray} (hd : d ≤ 9) (h : u ∈ shW d v w) : u.size = v.size + w.size ∧ isWd d u = true := by
  have h1 := (List.mem_filter.1 h).1
  obtain ⟨i, hi⟩ := List.getElem?_of_mem h1
  exact word_at hd hi
end Go.Proofs.Ytibjkjhpfmmjoaa.M
namespace Go.Proofs.Ytibjkjhpfmmjoaa.M
set_option linter.unusedVariables false
theorem shN_le' {v w u : List UInt8} (hu : u.length ≤ 16) : sh v w u ≤ 65536 :=
  Nat.le_trans (sh_le u v w) (Nat.pow_le_pow_right (n := 2) (by omega) hu)
def pairO (half : Bool) (v w : ByteArray) (o : Option Ts) (m : Option Fr) (ws : List ByteArray) : Option Ts := o.bind fun z => m.bind fun p => ws.foldlM (stepW half v w p) z
def foldB (d n : Nat) (half : Bool) (a : Tm) (o : Option Ts) (y : Ts) (j : Nat) : Option Ts := o.bind fun z => (y.take j).foldlM (stepC d n half a) z
def foldA (d n : Nat) (half : Bool) (x y : Ts) (i : Nat) : Option Ts := (x.take i).foldlM (stepA d n half y) []
theorem pairO_nil {half : Bool} {v w : ByteArray} {o : Option Ts} {m : Option Fr} : pairO half v w o m [] = m.bind fun _ => o := by
  unfold pairO
  cases o <;> cases m <;> rfl
theorem pairO_next {half : Bool} {v w u : ByteArray} {o : Option Ts} {p : Fr} {ws : List ByteArray} {k : Nat} (hu : ws[k]? = some u) : pairO half v w o (some p) (ws.take (k + 1)) = (pairO half v w o (some p) (ws.take k)).bind fun z => stepW half v w p z u := by
  obtain ⟨h1, h2⟩ := List.getElem?_eq_some_iff.1 hu
  unfold pairO
  cases o with
  | none => rfl
  | some z =>
    show List.foldlM (stepW half v w p) z (ws.take (k + 1)) = Option.bind (List.foldlM (stepW half v w p) z (ws.take k)) _
    rw [foldM_next _ ws z h1, h2]
theorem pairO_zero {half : Bool} {v w u : ByteArray} {o : Option Ts} {m : Option Fr} {ws : List ByteArray} {k : Nat} (hu : ws[k]? = some u) (h0 : numS half v w u = 0) : pairO half v w o m (ws.take (k + 1)) = pairO half v w o m (ws.take k) := by
  cases m with
  | none => unfold pairO; cases o <;> rfl
  | some p =>
    rw [pairO_next hu]
    cases pairO half v w o (some p) (ws.take k) with
    | none => rfl
    | some z => exact stepW_zero h0
theorem rel_word {d n : Nat} {half : Bool} {v w u : ByteArray} {o : Option Ts} {m : Option Fr} {ws : List ByteArray} {k : Nat} {F : Tb} (h : Rel d n (pairO half v w o m (ws.take k)) F) (hF : good F.1) (hu : ws[k]? = some u) (h0 : ¬ numS half v w u = 0) (hs : isWd d u = true) (hn : u.size ≤ n) :
    Rel d n (pairO half v w o m (ws.take (k + 1))) (addT F (u, mul (orZ m) ((numS half v w u : Nat), 1))) ∧ good (addT F (u, mul (orZ m) ((numS half v w u : Nat), 1))).1 := by
  refine ⟨?_, addT_good hF fun a ha => mul_fr ha⟩
  cases m with
  | none =>
    have e : ∀ l, pairO half v w o none l = none := fun l => by unfold pairO; cases o <;> rfl
    rw [e] at h ⊢
    exact rel_no (by have := rel_bad h; simp [addT, this])
  | some p =>
    rw [pairO_next hu]
    have h1 := (rel_add h hF hs hn (p := mul p ((numS half v w u : Nat), 1)) (fun a ha => mul_fr ha)).1
    have e : (fun z => stepW half v w p z u) = fun l => putS l (u, mul p ((numS half v w u : Nat), 1)) := by
      funext z
      rw [stepW_pos h0]
      unfold putS
      cases mul p ((numS half v w u : Nat), 1) <;> rfl
    rw [e]
    exact h1
theorem foldB_zero {d n : Nat} {half : Bool} {a : Tm} {o : Option Ts} {y : Ts} : foldB d n half a o y 0 = o := by
  unfold foldB
  cases o <;> rfl
theorem foldB_next {d n : Nat} {half : Bool} {a b : Tm} {o : Option Ts} {y : Ts} {j : Nat} (hb : y[j]? = some b) : foldB d n half a o y (j + 1) = (foldB d n half a o y j).bind fun z => stepC d n half a z b := by
  obtain ⟨h1, h2⟩ := List.getElem?_eq_some_iff.1 hb
  unfold foldB
  cases o with
  | none => rfl
  | some z =>
    show List.foldlM (stepC d n half a) z (y.take (j + 1)) = Option.bind (List.foldlM (stepC d n half a) z (y.take j)) _
    rw [foldM_next _ y z h1, h2]
theorem foldB_long {d n : Nat} {half : Bool} {a b : Tm} {o : Option Ts} {y : Ts} {j : Nat} (hb : y[j]? = some b) (hh : ¬ (half = true ∧ a.1.size = 0)) (hn : n < a.1.size + b.1.size) : foldB d n half a o y (j + 1) = (mul a.2 b.2).bind fun _ => foldB d n half a o y j := by
  rw [foldB_next hb]
  cases hm : mul a.2 b.2 with
  | none =>
    cases foldB d n half a o y j with
    | none => rfl
    | some z => exact stepC_bad hh hm
  | some p =>
    cases foldB d n half a o y j with
    | none => rfl
    | some z => exact stepC_long hh hm hn
theorem foldB_open {d n : Nat} {half : Bool} {a b : Tm} {o : Option Ts} {y : Ts} {j : Nat} (hb : y[j]? = some b) (hh : ¬ (half = true ∧ a.1.size = 0)) (hn : ¬ n < a.1.size + b.1.size) : foldB d n half a o y (j + 1) = pairO half a.1 b.1 (foldB d n half a o y j) (mul a.2 b.2) (wordsN d (a.1.size + b.1.size)) := by
  rw [foldB_next hb]
  unfold pairO
  cases foldB d n half a o y j with
  | none => rfl
  | some z =>
    show stepC d n half a z b = _
    unfold stepC stepB
    rw [if_neg hh]
    cases mul a.2 b.2 with
    | none => rfl
    | some p =>
      show (if n < a.1.size + b.1.size then some z else _) = _
      rw [if_neg hn]
      rfl
theorem foldA_next {d n : Nat} {half : Bool} {x y : Ts} {i : Nat} {a : Tm} (ha : x[i]? = some a) : foldA d n half x y (i + 1) = foldB d n half a (foldA d n half x y i) y y.length := by
  obtain ⟨h1, h2⟩ := List.getElem?_eq_some_iff.1 ha
  unfold foldA foldB
  rw [foldM_next _ x [] h1, h2, List.take_length]
  congr 1
  funext z
  exact (stepC_fold d n half a y z).symm
theorem foldA_skip {d n : Nat} {half : Bool} {x y : Ts} {i : Nat} {a : Tm} (ha : x[i]? = some a) (hh : half = true ∧ a.1.size = 0) : foldA d n half x y (i + 1) = foldA d n half x y i := by
  obtain ⟨h1, h2⟩ := List.getElem?_eq_some_iff.1 ha
  unfold foldA
  rw [foldM_next _ x [] h1, h2]
  cases (x.take i).foldlM (stepA d n half y) [] with
  | none => rfl
  | some z =>
    show stepA d n half y z a = some z
    unfold stepA
    rw [if_pos hh]
theorem foldA_all {d n : Nat} {half : Bool} {x y : Ts} : foldA d n half x y x.length = shS d n half x y := by
  unfold foldA shS
  rw [List.take_length]
theorem sh_rel {d n : Nat} {half : Bool} {x y : Ts} {i : Nat} {F : Tb} (h : Rel d n (foldA d n half x y i) F) (hi : i = x.length) : Rel d n (shS d n half x y) F := by
  rw [← foldA_all, ← hi]; exact h
theorem put_ts {d n : Nat} {z z' : Ts} {u : ByteArray} {q : Fr} (hz : isTs d n z = true) (hw : isWd d u = true) (hn : u.size ≤ n) (hq : fr q = true) (h : put z u q = some z') : isTs d n z' = true := by
  rcases put_co hz hw hn hq with ⟨e1, _⟩ | ⟨l', s, e1, _, e3, _, _⟩
  · rw [e1] at h; cases h
  · rw [e1] at h; cases h; exact e3
theorem foldM_inv {α β : Type} {g : β → α → Option β} {P : β → Prop} : ∀ {l : List α} {b b' : β}, (∀ a ∈ l, ∀ y y', P y → g y a = some y' → P y') → P b → l.foldlM g b = some b' → P b'
  | [], b, b', _, hb, h => by
    have : b = b' := by simpa using h
    rw [← this]; exact hb
  | a :: l, b, b', hg, hb, h => by
    rw [List.foldlM_cons] at h
    cases h1 : g b a with
    | none => rw [h1] at h; cases h
    | some y =>
      rw [h1] at h
      exact foldM_inv (fun x hx => hg x (List.mem_cons_of_mem _ hx)) (hg a List.mem_cons_self b y hb h1) h
theorem sh_ts {d n : Nat} (hd : d ≤ 9) {half : Bool} {x y z : Ts} (h : shS d n half x y = some z) : isTs d n z = true := by
  refine foldM_inv (P := fun z => isTs d n z = true) (fun a _ z1 z2 h1 h2 => ?_) (isTs_nil d n) h
  unfold stepA at h2
  split at h2
  · cases h2; exact h1
  · refine foldM_inv (P := fun z => isTs d n z = true) (fun b _ z3 z4 h3 h4 => ?_) h1 h2
    unfold stepB at h4
    cases hm : mul a.2 b.2 with
    | none => rw [hm] at h4; cases h4
    | some p =>
      rw [hm] at h4
      have h4' : (if n < a.1.size + b.1.size then some z3 else (wordsN d (a.1.size + b.1.size)).foldlM (stepW half a.1 b.1 p) z3) = some z4 := h4
      split at h4'
      · cases h4'; exact h3
      · rename_i hl
        refine foldM_inv (P := fun z => isTs d n z = true) (fun u hu z5 z6 h5 h6 => ?_) h3 h4'
        obtain ⟨i, hi⟩ := List.getElem?_of_mem hu
        obtain ⟨g1, g2⟩ := word_at hd hi
        by_cases h0 : numS half a.1 b.1 u = 0
        · rw [stepW_zero h0] at h6; cases h6; exact h5
        · rw [stepW_pos h0] at h6
          cases hq : mul p ((numS half a.1 b.1 u : Nat), 1) with
          | none => rw [hq] at h6; cases h6
          | some q =>
            rw [hq] at h6
            exact put_ts h5 g2 (by omega) (mul_fr hq) h6
theorem rel_any {d n : Nat} {o : Option Ts} (h : ∀ z, o = some z → isTs d n z = true) : ∃ F, Rel d n o F := by
  cases o with
  | none => exact ⟨((fun _ => (0, 1)), true), .inl ⟨rfl, rfl⟩⟩
  | some z => exact ⟨(co z, false), .inr ⟨z, rfl, rfl, h z rfl, fun _ _ _ => rfl⟩⟩
def shF (d n : Nat) (x y : Ts) : Option Ts := shS d n false x y
def shH (d n : Nat) (x y : Ts) : Option Ts := shS d n true x y
theorem shF_def (d n : Nat) (x y : Ts) : shS d n false x y = shF d n x y := rfl
theorem shH_def (d n : Nat) (x y : Ts) : shS d n true x y = shH d n x y := rfl
theorem shF_ex (d n : Nat) (x y : Ts) (hd : d ≤ 9) (_ : isTs d n x = true) (_ : isTs d n y = true) : ∃ F, Rel d n (shF d n x y) F := rel_any fun z h => sh_ts hd h
theorem shH_ex (d n : Nat) (x y : Ts) (hd : d ≤ 9) (_ : isTs d n x = true) (_ : isTs d n y = true) : ∃ F, Rel d n (shH d n x y) F := rel_any fun z h => sh_ts hd h
def shP (d n : Nat) (l : Ts) : Nat → Option Ts
  | 0 => some unitT
  | k + 1 => (shP d n l k).bind fun z => shF d n z l
theorem shP_none {d n : Nat} {l : Ts} {i : Nat} (h : shP d n l i = none) : ∀ {j : Nat}, i ≤ j → shP d n l j = none
  | 0, hj => by obtain rfl : i = 0 := by omega
                exact h
  | j + 1, hj => by
    by_cases e : i = j + 1
    · exact e ▸ h
    · rw [shP, shP_none h (j := j) (by omega)]; rfl
theorem shP_ts {d n : Nat} (hd : d ≤ 9) {l z : Ts} {k : Nat} (h : shP d n l k = some z) : isTs d n z = true := by
  cases k with
  | zero => cases h; exact unit_ts d n
  | succ k =>
    rw [shP] at h
    cases hk : shP d n l k with
    | none => rw [hk] at h; cases h
    | some y => rw [hk] at h; exact sh_ts hd h
end Go.Proofs.Ytibjkjhpfmmjoaa.M

namespace Go.Proofs.Ytibjkjhpfmmjoaa.M
set_option linter.unusedVariables false
set_option linter.unusedSimpArgs false
def rv (a : Fr) : Rat := (a.1 : Rat) / (a.2 : Rat)
theorem rq_ne {b : Int} (h : b ≠ 0) : (b : Rat) ≠ 0 := by exact_mod_cast h
theorem rv_zero : rv (0, 1) = 0 := by unfold rv; simp [Rat.div_def]
theorem rv_int (n : Int) : rv (n, 1) = n := by
  unfold rv
  have h : ((1 : Int) : Rat) = 1 := by decide +kernel
  show (n : Rat) / ((1 : Int) : Rat) = n
  rw [h]; grind
theorem frac_rv {a b : Int} {c : Fr} (h : frac a b = some c) : rv c * (b : Rat) = (a : Rat) := by
  unfold frac at h
  split at h
  · rename_i hh
    injection h with h
    subst h
    have hs := sgd_ne (a := a) hh.1
    have ha : sgd a b ∣ a := by
      unfold sgd; split
      · exact (Int.neg_dvd).2 (Int.gcd_dvd_left ..)
      · exact Int.gcd_dvd_left ..
    have hb : sgd a b ∣ b := by
      unfold sgd; split
      · exact (Int.neg_dvd).2 (Int.gcd_dvd_right ..)
      · exact Int.gcd_dvd_right ..
    have hy0 := hh.1
    unfold rv rnum rden
    generalize sgd a b = s at hs ha hb
    obtain ⟨x, rfl⟩ := ha
    obtain ⟨y, rfl⟩ := hb
    show ((s * x).tdiv s : Rat) / ((s * y).tdiv s : Rat) * ((s * y : Int) : Rat) = ((s * x : Int) : Rat)
    rw [Int.mul_tdiv_cancel_left _ hs, Int.mul_tdiv_cancel_left _ hs]
    have hy : y ≠ 0 := fun e => hy0 (by rw [e, Int.mul_zero])
    have h1 := rq_ne hy
    push_cast
    grind
  · cases h
theorem fr_dne {a : Fr} (h : fr a = true) : (a.2 : Rat) ≠ 0 := rq_ne (by have := fr_den h; omega)
theorem frac_of {a b : Int} {c : Fr} (hc : fr c = true) (hb : b ≠ 0) (h : rv c * (b : Rat) = (a : Rat)) : frac a b = some c := by
  have hd := fr_dne hc
  have h2 := fr_den hc
  have e : c.1 * b = a * c.2 := by
    have : ((c.1 * b : Int) : Rat) = ((a * c.2 : Int) : Rat) := by
      push_cast
      unfold rv at h
      grind
    exact_mod_cast this
  have hsf : frac c.1 c.2 = some c := frac_self hc
  rw [← frac_scale (p := a) (q := b) (g := c.2) (by omega), ← e]
  by_cases hp : 0 < b
  · rw [Int.mul_comm b c.2, frac_scale hp]; exact hsf
  · have h3 : c.1 * b = -c.1 * -b := by rw [Int.neg_mul_neg]
    have h4 : b * c.2 = -c.2 * -b := by rw [Int.neg_mul_neg, Int.mul_comm]
    rw [h3, h4, frac_scale (by omega)]
    have h5 : ((Int.gcd c.1 c.2 : Nat) : Int) = 1 := by have := (isFr_iff _ _).1 hc; omega
    have e1 : sgd (-c.1) (-c.2) = -1 := by unfold sgd; rw [if_pos (by omega), Int.neg_gcd, Int.gcd_neg, h5]
    have e2 : rnum (-c.1) (-c.2) = c.1 := by unfold rnum; rw [e1, Int.tdiv_neg, Int.tdiv_one, Int.neg_neg]
    have e3 : rden (-c.1) (-c.2) = c.2 := by unfold rden; rw [e1, Int.tdiv_neg, Int.tdiv_one, Int.neg_neg]
    rw [frac_ok (by omega) (by unfold okN; rw [e2, e3]; exact hc), e2, e3]
theorem rv_inj {a b : Fr} (ha : fr a = true) (hb : fr b = true) (h : rv a = rv b) : a = b := by
  have h1 : frac a.1 a.2 = some a := frac_self ha
  have h2 : frac a.1 a.2 = some b := frac_of hb (by have := fr_den ha; omega) (by
    rw [← h]
    have := fr_dne ha
    unfold rv
    grind)
  exact Option.some.inj (h1.symm.trans h2)
theorem add_rv {a b c : Fr} (ha : fr a = true) (hb : fr b = true) (h : add a b = some c) : rv c = rv a + rv b := by
  have h1 := frac_rv h
  have h2 := fr_dne ha
  have h3 := fr_dne hb
  push_cast at h1
  unfold rv at *
  grind
theorem add_of {a b c : Fr} (ha : fr a = true) (hb : fr b = true) (hc : fr c = true) (h : rv c = rv a + rv b) : add a b = some c := by
  have h2 := fr_dne ha
  have h3 := fr_dne hb
  have k2 := fr_den ha
  have k3 := fr_den hb
  refine frac_of hc (Int.mul_ne_zero (by omega) (by omega)) ?_
  rw [h]
  push_cast
  unfold rv
  grind
theorem mul_rv {a b c : Fr} (ha : fr a = true) (hb : fr b = true) (h : mul a b = some c) : rv c = rv a * rv b := by
  have h1 := frac_rv h
  have h2 := fr_dne ha
  have h3 := fr_dne hb
  push_cast at h1
  unfold rv at *
  grind
/-! ### sums -/
def qs {α : Type} (f : α → Rat) : List α → Rat
  | [] => 0
  | a :: l => f a + qs f l
theorem qs_congr {α : Type} {f g : α → Rat} : ∀ {l : List α}, (∀ a ∈ l, f a = g a) → qs f l = qs g l
  | [], _ => rfl
  | a :: l, h => by
    show f a + qs f l = g a + qs g l
    rw [h a List.mem_cons_self, qs_congr fun b hb => h b (List.mem_cons_of_mem _ hb)]
theorem qs_zero {α : Type} {f : α → Rat} {l : List α} (h : ∀ a ∈ l, f a = 0) : qs f l = 0 := by
  rw [qs_congr (g := fun _ => 0) h]
  clear h
  induction l with
  | nil => rfl
  | cons a l ih => show (0 : Rat) + qs (fun _ => 0) l = 0; rw [ih]; grind
theorem qs_add {α : Type} (f g : α → Rat) : ∀ l : List α, qs (fun a => f a + g a) l = qs f l + qs g l
  | [] => by show (0 : Rat) = 0 + 0; grind
  | a :: l => by show f a + g a + qs (fun a => f a + g a) l = f a + qs f l + (g a + qs g l); rw [qs_add f g l]; grind
theorem qs_map {α β : Type} (f : β → Rat) (g : α → β) : ∀ l : List α, qs f (l.map g) = qs (fun a => f (g a)) l
  | [] => rfl
  | a :: l => by show f (g a) + qs f (l.map g) = _; rw [qs_map f g l]; rfl
theorem qs_swap {α β : Type} (f : α → β → Rat) (m : List β) : ∀ l : List α, qs (fun a => qs (f a) m) l = qs (fun b => qs (fun a => f a b) l) m
  | [] => (qs_zero fun _ _ => rfl).symm
  | a :: l => by
    show qs (f a) m + qs (fun a => qs (f a) m) l = qs (fun b => f a b + qs (fun a => f a b) l) m
    rw [qs_swap f m l, ← qs_add]
theorem qs_single {g : ByteArray → Rat} {w : ByteArray} : ∀ {l : List ByteArray}, (l.Pairwise fun a b => bef a b = true) → w ∈ l → qs (fun s => if s = w then g s else 0) l = g w
  | [], _, h => by cases h
  | a :: l, hp, h => by
    obtain ⟨h1, h2⟩ := List.pairwise_cons.1 hp
    show (if a = w then g a else 0) + qs _ l = g w
    by_cases e : a = w
    · rw [if_pos e, qs_zero (f := fun s => if s = w then g s else 0), e]
      · grind
      · intro b hb
        have := bef_ne (h1 b hb)
        exact if_neg fun e2 => this (e.trans e2.symm)
    · rw [if_neg e, qs_single h2 ((List.mem_cons.1 h).resolve_left fun e2 => e e2.symm)]
      grind
/-! ### rows: what is put -/
theorem puts_rv {d n : Nat} : ∀ {U : Us} {l z : Ts}, isTs d n l = true → (∀ u ∈ U, isWd d u.1 = true ∧ u.1.size ≤ n ∧ ∀ a, u.2 = some a → fr a = true) → putsS l U = some z →
    (∀ u ∈ U, ∃ a, u.2 = some a) ∧ isTs d n z = true ∧ ∀ w, rv (co z w) = rv (co l w) + qs (fun u => if u.1 = w then rv (orZ u.2) else 0) U
  | [], l, z, hl, _, h => by
    have e : l = z := by simpa [putsS] using h
    subst e
    refine ⟨fun u hu => (by cases hu), hl, fun w => ?_⟩
    show _ = rv (co l w) + 0
    grind
  | (s, o) :: U, l, z, hl, hU, h => by
    have hu := hU (s, o) List.mem_cons_self
    have h' : (putS l (s, o)).bind (fun y => putsS y U) = some z := by
      unfold putsS at h ⊢
      rw [List.foldlM_cons] at h
      exact h
    cases o with
    | none => cases h'
    | some a =>
      have h'' : (put l s a).bind (fun y => putsS y U) = some z := h'
      have ha := hu.2.2 a rfl
      rcases put_co hl hu.1 hu.2.1 ha with ⟨e1, _⟩ | ⟨l', c, e1, e2, e3, e4, _⟩
      · rw [e1] at h''; cases h''
      · rw [e1] at h''
        obtain ⟨i1, i2, i3⟩ := puts_rv e3 (fun u hu => hU u (List.mem_cons_of_mem _ hu)) h''
        refine ⟨fun u hu => ?_, i2, fun w => ?_⟩
        · rcases List.mem_cons.1 hu with rfl | hu
          · exact ⟨a, rfl⟩
          · exact i1 u hu
        · rw [i3 w, e4]
          show _ = rv (co l w) + ((if s = w then rv a else 0) + qs _ U)
          unfold upd
          by_cases e : w = s
          · subst e
            rw [if_pos rfl, if_pos rfl, add_rv (co_fr hl w) ha e2]
            grind
          · rw [if_neg e, if_neg (fun h => e h.symm)]
            grind
/-! ### words as lists; products of functions on words -/
def mkW (l : List UInt8) : ByteArray := ⟨l.toArray⟩
theorem bl_mk (l : List UInt8) : bl (mkW l) = l := rfl
theorem mk_bl (s : ByteArray) : mkW (bl s) = s := bl_ext rfl
def qf (l : Ts) (w : List UInt8) : Rat := rv (co l (mkW w))
abbrev Qw := List UInt8 → Rat
def conv (F G : Qw) : Qw
  | [] => F [] * G []
  | a :: l => F [] * G (a :: l) + conv (fun u => F (a :: u)) G l
theorem conv_cons (F G : Qw) (a : UInt8) (l : List UInt8) : conv F G (a :: l) = F [] * G (a :: l) + conv (fun u => F (a :: u)) G l := by rw [conv]
theorem conv_nil (F G : Qw) : conv F G [] = F [] * G [] := by rw [conv]
theorem conv_congr {d : Nat} : ∀ {l : List UInt8} {F F' G G' : Qw}, isWL d l = true → (∀ u, isWL d u = true → u.length ≤ l.length → F u = F' u) → (∀ u, isWL d u = true → u.length ≤ l.length → G u = G' u) → conv F G l = conv F' G' l
  | [], F, F', G, G', hl, hF, hG => by rw [conv_nil, conv_nil, hF [] rfl (Nat.le_refl _), hG [] rfl (Nat.le_refl _)]
  | a :: l, F, F', G, G', hl, hF, hG => by
    have hl' : isWL d [a] = true ∧ isWL d l = true := by
      have := isWL_append d [a] l
      rw [show [a] ++ l = a :: l from rfl, hl] at this
      simpa using this.symm
    rw [conv_cons, conv_cons, hF [] rfl (Nat.zero_le _), hG _ hl (Nat.le_refl _)]
    congr 1
    refine conv_congr hl'.2 (fun u hu hn => hF _ ?_ ?_) (fun u hu hn => hG u hu ?_)
    · have := isWL_append d [a] u
      rw [hl'.1, hu] at this
      exact this
    · simpa using hn
    · simp; omega
def OnQ (d n : Nat) (F G : Qw) : Prop := ∀ u, isWL d u = true → u.length ≤ n → F u = G u
theorem OnQ.refl {d n : Nat} (F : Qw) : OnQ d n F F := fun _ _ _ => rfl
theorem OnQ.symm {d n : Nat} {F G : Qw} (h : OnQ d n F G) : OnQ d n G F := fun u a b => (h u a b).symm
theorem OnQ.trans {d n : Nat} {F G H : Qw} (h : OnQ d n F G) (k : OnQ d n G H) : OnQ d n F H := fun u a b => (h u a b).trans (k u a b)
theorem OnQ.conv {d n : Nat} {F F' G G' : Qw} (hF : OnQ d n F F') (hG : OnQ d n G G') : OnQ d n (conv F G) (conv F' G') := fun l hl hn => conv_congr hl (fun u hu h => hF u hu (by omega)) (fun u hu h => hG u hu (by omega))
theorem ts_eq {d n : Nat} {x y : Ts} (hx : isTs d n x = true) (hy : isTs d n y = true) (h : OnQ d n (qf x) (qf y)) : x = y :=
  ts_ext hx hy fun w => by
    by_cases hw : isWd d w = true ∧ w.size ≤ n
    · refine rv_inj (co_fr hx w) (co_fr hy w) ?_
      have := h (bl w) hw.1 (by rw [bl_len]; exact hw.2)
      unfold qf at this
      rw [mk_bl] at this
      exact this
    · rw [co_off hx hw, co_off hy hw]
theorem puts_all {d n : Nat} {x y : Ts} (hy : isTs d n y = true) : ∀ u ∈ y.map (fun t => (t.1, some t.2)), isWd d u.1 = true ∧ u.1.size ≤ n ∧ ∀ a, u.2 = some a → fr a = true := by
  intro u hu
  obtain ⟨t, ht, rfl⟩ := List.mem_map.1 hu
  obtain ⟨z1, z2, z3, z4⟩ := isTm_fr ((isTs_iff.1 hy).1 t ht)
  exact ⟨z3, z4, fun a ha => by injection ha with ha; rw [← ha]; exact z1⟩
theorem sum_puts (x : Ts) : ∀ (y : Ts), sumS x y = putsS x (y.map fun t => (t.1, some t.2)) := by
  intro y
  unfold sumS putsS
  rw [List.foldlM_map]
  rfl
theorem qs_co {d n : Nat} {y : Ts} (hy : isTs d n y = true) (w : ByteArray) : qs (fun t => if t.1 = w then rv t.2 else 0) y = rv (co y w) := by
  have hs := (isTs_iff.1 hy).2
  clear hy
  induction y with
  | nil => rw [co_nil, rv_zero]; rfl
  | cons t r ih =>
    obtain ⟨h1, h2⟩ := List.pairwise_cons.1 hs
    show (if t.1 = w then rv t.2 else 0) + qs _ r = _
    rw [ih h2, co_cons]
    by_cases e : t.1 = w
    · rw [if_pos e, if_pos e, co_none fun u hu e2 => bef_ne (h1 u hu) (e.trans e2.symm), rv_zero]; grind
    · rw [if_neg e, if_neg e]; grind
theorem sum_rv {d n : Nat} {x y z : Ts} (hx : isTs d n x = true) (hy : isTs d n y = true) (h : sumS x y = some z) (w : List UInt8) : qf z w = qf x w + qf y w := by
  rw [sum_puts] at h
  obtain ⟨_, _, h3⟩ := puts_rv hx (puts_all (x := x) hy) h
  unfold qf
  rw [h3, qs_map]
  congr 1
  exact qs_co hy _
/-! ### what follows -/
end Go.Proofs.Ytibjkjhpfmmjoaa.M


/- Small words for the walks: worlds that have grown, returned values. Conditions: none. -/
namespace Go.Proofs.Ytibjkjhpfmmjoaa.H
open Go.RowKit Go.Proofs.YtibjkjhpfmmjoaaW.PrintWords
set_option linter.unusedVariables false
set_option linter.unusedSimpArgs false

theorem ret_int {k : IntKind} {a b : Int} (h : a = b) : Ending.returned (.int k a) = .returned (.int k b) := by rw [h]
theorem ret_bool {a b : Bool} (h : a = b) : Ending.returned (.bool a) = .returned (.bool b) := by rw [h]
theorem ret_str {a b : ByteArray} (h : a = b) : Ending.returned (.string a) = .returned (.string b) := by rw [h]
theorem bcell {W w1 : World} (hb : Below W.heap.size W w1) : (∀ b o, b < W.heap.size → w1.cell? ⟨b, o, none⟩ = W.cell? ⟨b, o, none⟩) ∧ (∀ b o, b < W.heap.size → w1.frozen? ⟨b, o, none⟩ = W.frozen? ⟨b, o, none⟩) :=
  ⟨fun b o h => hb.cell (p := ⟨b, o, none⟩) h, fun b o h => hb.frozen (p := ⟨b, o, none⟩) h⟩
theorem below_pair {w w1 w2 : World} (h : Below w.heap.size w w1) (k : Below w1.heap.size w1 w2) : Below w.heap.size w w2 := below_then h h.size k
theorem quiet_add {P : Program} {f : FuncId} {args : Array Value} {w : World} {a n : Nat} {v : Value}
    (h : Calls P f args (w.drewN (a + n)) fun e w' => e = .returned v ∧ ∃ m, w' = (w.drewN (a + n)).drewN m) :
    Calls P f args (w.drewN (a + n)) fun e w'' => e = .returned v ∧ ∃ m, w'' = w.drewN (a + m) :=
  h.mono fun _ _ ⟨he, m, hm⟩ => ⟨he, n + m, by rw [hm, World.drewN_drewN, Nat.add_assoc]⟩
theorem drawn_step {w w1 : World} {n : Nat} (h : ∃ m, w1 = w.drewN m) : ∃ m, w1.drewN n = w.drewN m := by
  obtain ⟨m, rfl⟩ := h
  exact ⟨_, World.drewN_drewN ..⟩
theorem drawn_none (w : World) : ∃ m, w = w.drewN m := ⟨0, rfl⟩
theorem R_cellN {k : IntKind} {e base g n cap : Nat} {ok : Nat → Prop} {W : World} {xs : List Int} (h : (Kd.int k).R e W base ok (.slice (some ⟨g, 0, none⟩) n cap) xs) (i : Nat) (hi : i < n) : W.cell? ⟨g, i, none⟩ = some (.int k (xs.getD i 0)) ∧ W.frozen? ⟨g, i, none⟩ = false := by
  have := Kd.R_celln 0 h (i : Int) (by omega) (by omega)
  simpa only [Int.toNat_natCast, rdOf] using this
theorem R_putN {k : IntKind} {e base g n cap : Nat} {ok : Nat → Prop} {W : World} {xs : List Int} (h : (Kd.int k).R e W base ok (.slice (some ⟨g, 0, none⟩) n cap) xs) (i : Nat) (x : Int) : (Kd.int k).R e (W.setCell ⟨g, i, none⟩ (.int k x)) base ok (.slice (some ⟨g, 0, none⟩) n cap) (xs.set i x) := by
  have h1 := Kd.R_putn h (i : Int) x
  rw [Int.toNat_natCast] at h1
  exact h1
end Go.Proofs.Ytibjkjhpfmmjoaa.H

/- Rows of terms in memory: the printed kinds and our own. Conditions: none. -/
namespace Go.Proofs.Ytibjkjhpfmmjoaa.H
open Go.RowKit Go.Proofs.YtibjkjhpfmmjoaaW.PrintWords Go.Proofs.YtibjkjhpfmmjoaaW.PrintLast Go.Proofs.YtibjkjhpfmmjoaaW.PrintMore Go.Proofs.Ytibjkjhpfmmjoaa.M
set_option linter.unusedVariables false
abbrev KT : Kd Tm := Kd.pair Kd.string (Kd.pair (Kd.int .i64) (Kd.int .i64))
section
variable {α β : Type} {d1 : Kd α} {d2 : Kd β}
end
end Go.Proofs.Ytibjkjhpfmmjoaa.H

/- What comparing two strings returns: proved by walking the library's code. Conditions: none. -/
namespace Go.Proofs.Ytibjkjhpfmmjoaa.H
open Go.RowKit Go.Proofs.YtibjkjhpfmmjoaaW.PrintWords
set_option linter.unusedVariables false
set_option maxRecDepth 100000
theorem bytealgCompare (a b : ByteArray) (w : World) : Calls Try.prog 147 #[.string a, .string b] w fun e w' => e = .returned (.int .i64 (Lib.compareBytes a.data.toList b.data.toList)) ∧ w' = w := by
  go_enter Try.func147, Try.ntmps147
  go_wp2
  rw [run_callFunc_extern Try.func148 (by kernel_rfl) (by kernel_rfl) (by kernel_rfl) (e := Extern.BytealgCompare.compare) (by kernel_rfl), Lib.run_compareString]
  simp only [Result.andThen]
  rw [Oper.upon_value]
  go_wp2
  go_ret
  exact ⟨rfl, rfl⟩
theorem stringsCompare (a b : ByteArray) (w : World) : Calls Try.prog 144 #[.string a, .string b] w fun e w' => e = .returned (.int .i64 (Lib.compareBytes a.data.toList b.data.toList)) ∧ ∃ n, w' = w.drewN n := by
  go_enter Try.func144, Try.ntmps144
  go_wp2_with (first | (go_at_call 147; refine (bytealgCompare _ _ _).mono ?_; rintro e w' ⟨rfl, rfl⟩))
  go_ret
  exact ⟨rfl, by first | exact ⟨_, rfl⟩ | exact drawn_none _⟩
end Go.Proofs.Ytibjkjhpfmmjoaa.H

/- What a series that can be read holds. Conditions: none. -/
namespace Go.Proofs.Ytibjkjhpfmmjoaa.H
open Go.RowKit Go.ChangeShapes Go.ChangeAt Go.Joins Go.Deep Go.ChangeMaps Go.Proofs.YtibjkjhpfmmjoaaW.PrintWords Go.Proofs.YtibjkjhpfmmjoaaW.PrintLast Go.Proofs.YtibjkjhpfmmjoaaW.PrintMore Go.Proofs.Ytibjkjhpfmmjoaa.M
set_option linter.unusedVariables false
set_option linter.unusedSimpArgs false

def OpensQ (P : Program) {α : Type} (d : Kd α) (t : TypeId) (Q : α → Prop) : Prop := ∀ (H : Type) (enc : TypeId × Value → H) (w : World) (fuel : Nat) (cs : List Value) (x : DataW H × List MemPlace), DataW.trod enc P w 0 (fun _ => true) true fuel t cs = some x → ∃ a : α, Q a ∧ d.K w a cs
section
variable {P : Program} {t e : TypeId} {α β : Type}
theorem opensQ_slice [Inhabited α] {d : Kd α} {Q : α → Prop} (ht : P.underlying t = some (.slice e)) (hc : P.cellsOf e = d.sz) (ha : OpensQ P d e Q) : OpensQ P (Kd.slice e d) t (fun l => ∀ a ∈ l, Q a) := fun H enc w fuel cs x h => by
  rcases open_slice ht h with ⟨rfl, _⟩ | ⟨a, len, cap, m, n, D, Pl, rfl, hb, hl, hm, hmm, _, hx⟩
  · exact ⟨[], by simp, none, 0, rfl, Nat.le_refl _, Kd.C_nil d w⟩
  · simp only [if_true] at hmm
    obtain ⟨f, hf⟩ := choose_lt (n := m) (p := fun i y => Q y ∧ ∃ c : List Value, c.length = d.sz ∧ d.K w y c ∧ ∀ i' u, c[i']? = some u → w.cell? (a.add (i * d.sz + i')) = some u) (fun i hi => by
      obtain ⟨c, h1, h2⟩ := hx i hi
      rw [hc] at h1
      obtain ⟨_, hlen, hcell⟩ := World.cells?_some h1
      obtain ⟨y, qy, hy⟩ := ha _ _ _ _ _ _ h2
      refine ⟨y, qy, c, hlen, hy, fun i' u hu => ?_⟩
      have hi' : i' < d.sz := by rw [← hlen]; exact (List.getElem?_eq_some_iff.1 hu).1
      have := hcell i' hi'
      rw [← hu, ← this]
      rw [Go.Deep.add_add])
    refine ⟨(List.range len).map f, ?_, some a, cap, by simp, by simpa using hl, by simp, ?_, fun _ => ⟨a, rfl, fun j p hj => ?_⟩⟩
    · intro y hy
      obtain ⟨i, hi, rfl⟩ := List.mem_map.1 hy
      exact (hf i (by have := List.mem_range.1 hi; omega)).1
    · simp only [List.length_map, List.length_range]
      unfold maxLen at hm; omega
    · obtain ⟨hj1, hj2⟩ := List.getElem?_eq_some_iff.1 hj
      simp only [List.length_map, List.length_range] at hj1
      obtain ⟨_, c, h1, h2, h3⟩ := hf j (by omega)
      refine ⟨c, h1, ?_, h3⟩
      rw [List.getElem_map, List.getElem_range] at hj2
      rw [← hj2]; exact h2
end
end Go.Proofs.Ytibjkjhpfmmjoaa.H


namespace Go.Proofs.Ytibjkjhpfmmjoaa.H
open Go.RowKit Go.Proofs.YtibjkjhpfmmjoaaW.PrintWords Go.Proofs.YtibjkjhpfmmjoaaW.PrintLast Go.Proofs.YtibjkjhpfmmjoaaW.PrintMore Go.Proofs.Ytibjkjhpfmmjoaa.M
set_option linter.unusedVariables false
set_option linter.unusedSimpArgs false
structure As where
  S : Nat → Prop
  I : World → Prop
  mv : ∀ {W W' : World}, (∀ k, S k → W'.heap[k]? = W.heap[k]?) → I W → I W'
  lt : ∀ {W : World}, I W → ∀ k, S k → k < W.heap.size
def bx (g t : Nat) (cs : Array Value) : As where
  S := fun k => k = g
  I := fun W => W.heap[g]? = some (.cells cs t (0, 0))
  mv := fun h hI => (h _ rfl).trans hI
  lt := fun h k hk => by subst hk; exact blk_lt h
theorem R_mv {α : Type} {d : Kd α} (hE : d.E = []) {e base : Nat} {v : Value} {xs : List α} {W W' : World} (hm : ∀ k, v.ownBlock = some k → W'.heap[k]? = W.heap[k]?) (h : d.R e W base (fun _ => True) v xs) : d.R e W' base (fun _ => True) v xs :=
  Kd.R_mono (Kd.R_step (Kd.R_tight hE h) (fun k hk _ => hm k hk.symm)) (fun _ _ => trivial)
def rw' {α : Type} (d : Kd α) (hE : d.E = []) (e : Nat) (v : Value) (xs : List α) : As where
  S := fun k => v.ownBlock = some k
  I := fun W => d.R e W 0 (fun _ => True) v xs
  mv := fun h hI => R_mv hE h hI
  lt := fun h k hk => Kd.R_lt h k hk
structure Mod (w W : World) (S : Nat → Prop) (L : List As) : Prop where
  os : W.os = w.os
  tape : W.tape = w.tape
  output : W.output = w.output
  size : w.heap.size ≤ W.heap.size
  block : ∀ k, k < w.heap.size → ¬ S k → W.heap[k]? = w.heap[k]?
  all : ∀ a ∈ L, a.I W ∧ ∀ k, a.S k → S k ∨ w.heap.size ≤ k
  dis : L.Pairwise fun a b => ∀ k, a.S k → b.S k → False
def No : Nat → Prop := fun _ => False
abbrev Sep (w W : World) (L : List As) : Prop := Mod w W No L
variable {w W W1 : World} {S S1 : Nat → Prop} {L R A : List As}
theorem Mod.below (h : Mod w W No L) : Below w.heap.size w W := ⟨h.os, h.tape, h.output, h.size, fun k hk => h.block k hk id⟩
theorem Sep.of (h : Below w.heap.size w W) : Sep w W [] := ⟨h.os, h.tape, h.output, h.size, fun k hk _ => h.block k hk, fun _ h => absurd h List.not_mem_nil, List.Pairwise.nil⟩
theorem Sep.refl (w : World) : Sep w w [] := .of (Below.refl _ _)
theorem Sep.one {a : As} (h : Below w.heap.size w W) (ha : a.I W) (hn : ∀ k, a.S k → w.heap.size ≤ k) : Sep w W [a] :=
  ⟨h.os, h.tape, h.output, h.size, fun k hk _ => h.block k hk, fun b hb => by obtain rfl := List.mem_singleton.1 hb; exact ⟨ha, fun k hk => .inr (hn k hk)⟩, List.pairwise_singleton _ _⟩
theorem Mod.own {L : List As} (h : ∀ a ∈ L, a.I w) (hd : L.Pairwise fun a b => ∀ k, a.S k → b.S k → False) : Mod w w (fun k => ∃ a ∈ L, a.S k) L :=
  ⟨rfl, rfl, rfl, Nat.le_refl _, fun _ _ _ => rfl, fun a ha => ⟨h a ha, fun k hk => .inl ⟨a, ha, hk⟩⟩, hd⟩
theorem Mod.own1 {a : As} (h : a.I w) : Mod w w a.S [a] :=
  ⟨rfl, rfl, rfl, Nat.le_refl _, fun _ _ _ => rfl, fun b hb => by obtain rfl := List.mem_singleton.1 hb; exact ⟨h, fun k hk => .inl hk⟩, List.pairwise_singleton _ _⟩
theorem Mod.sel (h : Mod w W S L) (is : List Nat) (hn : is.Nodup) : Mod w W S (is.filterMap (L[·]?)) := by
  refine ⟨h.os, h.tape, h.output, h.size, h.block, fun a ha => ?_, ?_⟩
  · obtain ⟨i, _, hi⟩ := List.mem_filterMap.1 ha
    exact h.all a (List.mem_of_getElem? hi)
  · rw [List.pairwise_filterMap]
    refine hn.imp ?_
    intro i j hij a ha b hb
    have hd := List.pairwise_iff_getElem.1 h.dis
    obtain ⟨hi, rfl⟩ := List.getElem?_eq_some_iff.1 ha
    obtain ⟨hj, rfl⟩ := List.getElem?_eq_some_iff.1 hb
    rcases Nat.lt_or_gt_of_ne hij with h1 | h1
    · exact hd i j hi hj h1
    · exact fun k h2 h3 => hd j i hj hi h1 k h3 h2
theorem Mod.step {A0 : List As} (h : Mod w W S (A0 ++ R)) (k : Mod W W1 S1 A) (hS : ∀ j, S1 j → ∃ a ∈ A0, a.S j) : Mod w W1 S (A ++ R) := by
  obtain ⟨hd1, hd2, hd3⟩ := List.pairwise_append.1 h.dis
  have far : ∀ a ∈ R, ∀ j, a.S j → j < W.heap.size ∧ ¬ S1 j := fun a ha j hj => by
    refine ⟨a.lt (h.all a (List.mem_append_right _ ha)).1 j hj, fun h1 => ?_⟩
    obtain ⟨b, hb, hbj⟩ := hS j h1
    exact hd3 b hb a ha j hbj hj
  have own : ∀ j, S1 j → S j ∨ w.heap.size ≤ j := fun j h1 => by
    obtain ⟨b, hb, hbj⟩ := hS j h1
    exact (h.all b (List.mem_append_left _ hb)).2 j hbj
  refine ⟨k.os.trans h.os, k.tape.trans h.tape, k.output.trans h.output, Nat.le_trans h.size k.size, fun j hj hs => ?_, fun a ha => ?_, ?_⟩
  · have h2 : ¬ S1 j := fun h1 => (own j h1).elim hs (fun h3 => by omega)
    exact (k.block j (Nat.lt_of_lt_of_le hj h.size) h2).trans (h.block j hj hs)
  · rcases List.mem_append.1 ha with ha | ha
    · obtain ⟨h1, h2⟩ := k.all a ha
      exact ⟨h1, fun j hj => (h2 j hj).elim (own j) (fun h3 => .inr (Nat.le_trans h.size h3))⟩
    · obtain ⟨h1, h2⟩ := h.all a (List.mem_append_right _ ha)
      exact ⟨a.mv (fun j hj => k.block j (far a ha j hj).1 (far a ha j hj).2) h1, h2⟩
  · refine List.pairwise_append.2 ⟨k.dis, hd2, fun a ha b hb j h1 h2 => ?_⟩
    obtain ⟨f1, f2⟩ := far b hb j h2
    exact ((k.all a ha).2 j h1).elim f2 (fun h3 => by omega)
theorem Mod.new (h : Mod w W S L) (k : Sep W W1 A) : Mod w W1 S (A ++ L) := Mod.step (A0 := []) h k (fun _ h => h.elim)
theorem Mod.call (h : Mod w W S L) (k : Below W.heap.size W W1) : Mod w W1 S L := h.new (.of k)
theorem Mod.drew (h : Mod w W S L) : Mod w W.drew S L := h.call (below_drew (Below.refl _ _))
theorem Mod.turn (h : Mod w W S L) {i : Nat} {a a' : As} (hi : L[i]? = some a) (k : Mod W W1 a.S [a']) (hs : ∀ j, a'.S j → a.S j ∨ W.heap.size ≤ j) : Mod w W1 S (L.set i a') := by
  obtain ⟨hi1, hi2⟩ := List.getElem?_eq_some_iff.1 hi
  have hall := List.pairwise_iff_getElem.1 h.dis
  have hI := fun j (hj : j < L.length) => h.all L[j] (List.getElem_mem hj)
  have far : ∀ j (hj : j < L.length), j ≠ i → ∀ q, L[j].S q → q < W.heap.size ∧ ¬ a.S q := fun j hj hne q hq => by
    refine ⟨L[j].lt (hI j hj).1 q hq, fun h1 => ?_⟩
    rw [← hi2] at h1
    rcases Nat.lt_or_gt_of_ne hne with h2 | h2
    · exact hall j i hj hi1 h2 q hq h1
    · exact hall i j hi1 hj h2 q h1 hq
  have own : ∀ j, a.S j → S j ∨ w.heap.size ≤ j := by rw [← hi2]; exact (hI i hi1).2
  refine ⟨k.os.trans h.os, k.tape.trans h.tape, k.output.trans h.output, Nat.le_trans h.size k.size, fun j hj hs => ?_, fun b hb => ?_, ?_⟩
  · have h2 : ¬ a.S j := fun h1 => (own j h1).elim hs (fun h3 => by omega)
    exact (k.block j (Nat.lt_of_lt_of_le hj h.size) h2).trans (h.block j hj hs)
  · obtain ⟨j, hj, rfl⟩ := List.getElem_of_mem hb
    rw [List.length_set] at hj
    by_cases hji : i = j
    · subst hji
      rw [List.getElem_set_self]
      obtain ⟨h1, h2⟩ := k.all a' (List.mem_singleton.2 rfl)
      exact ⟨h1, fun q hq => (h2 q hq).elim (own q) (fun h3 => .inr (Nat.le_trans h.size h3))⟩
    · rw [List.getElem_set_ne hji]
      exact ⟨L[j].mv (fun q hq => k.block q (far j hj (Ne.symm hji) q hq).1 (far j hj (Ne.symm hji) q hq).2) (hI j hj).1, (hI j hj).2⟩
  · refine List.pairwise_iff_getElem.2 fun x y hx hy hxy q h1 h2 => ?_
    rw [List.length_set] at hx hy
    rw [List.getElem_set] at h1 h2
    split at h1
    · rename_i e1
      split at h2
      · omega
      · rename_i e2
        obtain ⟨f1, f2⟩ := far y hy (Ne.symm e2) q h2
        exact (hs q h1).elim f2 (fun h3 => by omega)
    · rename_i e1
      split at h2
      · obtain ⟨f1, f2⟩ := far x hx (Ne.symm e1) q h1
        exact (hs q h2).elim f2 (fun h3 => by omega)
      · exact hall x y hx hy hxy q h1 h2
theorem Mod.at (h : Mod w W S L) {i : Nat} {a : As} (hi : L[i]? = some a) : a.I W := (h.all a (List.mem_of_getElem? hi)).1
theorem Mod.rowAt {α : Type} {d : Kd α} {hE : d.E = []} {e : Nat} {v : Value} {xs : List α} (h : Mod w W S L) (i : Nat) (hi : L[i]? = some (rw' d hE e v xs)) : d.R e W 0 (fun _ => True) v xs := h.at hi
theorem Mod.reads {α : Type} {d : Kd α} {hE : d.E = []} {e n c : Nat} {A : Option Addr} {xs : List α} (h : Mod w W S L) (i : Nat) (hi : L[i]? = some (rw' d hE e (.slice A n c) xs)) : d.C W A xs.length xs := (Kd.R_reads' (h.rowAt i hi)).2.2
theorem Mod.cap {α : Type} {d : Kd α} {hE : d.E = []} {e n c : Nat} {A : Option Addr} {xs : List α} (h : Mod w W S L) (i : Nat) (hi : L[i]? = some (rw' d hE e (.slice A n c) xs)) : n ≤ c := (Kd.R_reads' (h.rowAt i hi)).2.1
theorem Mod.nil {α : Type} {d : Kd α} {hE : d.E = []} {e : Nat} (h : Mod w W S L) : Mod w W S (rw' d hE e (.slice none ([] : List α).length 0) [] :: L) :=
  h.new (A := [rw' d hE e (.slice none ([] : List α).length 0) []]) ⟨rfl, rfl, rfl, Nat.le_refl _, fun _ _ _ => rfl, fun b hb => by obtain rfl := List.mem_singleton.1 hb; exact ⟨Kd.R_nil _ _ _ _ _, fun k hk => by have hk' : (Value.slice none 0 0).ownBlock = some k := hk; simp [Value.ownBlock] at hk'⟩, List.pairwise_singleton _ _⟩
theorem Mod.c (h : Mod w W S L) (i j : Nat) {g t : Nat} {cs : Array Value} {v : Value} (hi : L[i]? = some (bx g t cs)) (hj : cs[j]? = some v) : W.cell? ⟨g, j, none⟩ = some v := (blk_cell (h.at hi) j).trans hj
theorem Mod.f (h : Mod w W S L) (i j : Nat) {g t : Nat} {cs : Array Value} (hi : L[i]? = some (bx g t cs)) : W.frozen? ⟨g, j, none⟩ = false := blk_frozen (h.at hi) j
theorem Mod.old (h : Mod w W No L) {a : Addr} {v : Value} (hc : w.cell? a = some v) : W.cell? a = some v := (h.below.cell (World.block_lt_of_cell? w a hc)).trans hc
theorem Mod.oldI (h : Mod w W No L) {a : As} (ha : a.I w) : a.I W := a.mv (fun k hk => h.block k (a.lt ha k hk) id) ha
theorem Mod.oldC {α : Type} {d : Kd α} {A : Option Addr} {n : Nat} {xs : List α} (h : Mod w W No L) (hc : d.C w A n xs) : d.C W A n xs := Kd.C_below hc h.below
theorem bx_c {g t : Nat} {cs : Array Value} (h : (bx g t cs).I W) (j : Nat) {v : Value} (hj : cs[j]? = some v) : W.cell? ⟨g, j, none⟩ = some v := (blk_cell h j).trans hj
/-! ### events, as steps -/
section
variable {P : Program} {ops : Array Oper} {o : Oper} {a : Act} {Q : Exit → Act → World → Prop} {Kc : Act → World → Prop} {rest : List Oper}
def Stp (P : Program) (ops : Array Oper) (Q : Exit → Act → World → Prop) (o : Oper) (a : Act) (W : World) (Kc : Act → World → Prop) : Prop := if Region.wanted o (yielded ops a.tmps) = true then Oper.wp P o a W Kc Q else Kc (a.put o.dst undef) W
theorem wpList_stp (h : ∀ K : Act → World → Prop, (∀ a w, wpList P ops Q rest a w → K a w) → Stp P ops Q o a W K) : wpList P ops Q (o :: rest) a W := wpList_step h
theorem stp_box (hw : Region.wanted o (yielded ops a.tmps) = true) {cs : Array Value} {t : TypeId} (HS : Aside0 (Mod w W S L))
    (hrun : (execOp a.eval o).run P W = .ok (.value (.pointer (some ⟨W.heap.size, 0, none⟩))) (W.alloc (.cells cs t (0, 0))))
    (h : ∀ g w1, w.heap.size ≤ g → Aside0 (Mod w w1 S (bx g t cs :: L)) → Kc (a.put o.dst (.pointer (some ⟨g, 0, none⟩))) w1) : Stp P ops Q o a W Kc := by
  unfold Stp
  rw [if_pos hw]
  unfold Oper.wp
  rw [hrun]
  exact h _ _ HS.out.size ⟨HS.out.new (A := [bx W.heap.size t cs]) (Sep.one (below_alloc (Below.refl _ _) _) (blk_new W _) (fun k hk => by rw [show k = W.heap.size from hk]; exact Nat.le_refl _))⟩
def over (cs : Array Value) (j : Nat) (vs : List Value) : Array Value := (cs.toList.take j ++ vs ++ cs.toList.drop (j + vs.length)).toArray
theorem setRow_I {g t : Nat} {cs cs' : Array Value} (h : W.heap[g]? = some (.cells cs t (0, 0))) : (W.setRow g cs').heap[g]? = some (.cells cs' t (0, 0)) := setRow_heap W g cs cs' t (0, 0) h
theorem setRow_far (W : World) (g : Nat) (cs : Array Value) (k : Nat) (hk : k ≠ g) : (W.setRow g cs).heap[k]? = W.heap[k]? := by
  unfold World.setRow
  simp only [Array.getElem?_modify]
  rw [if_neg (fun e => hk e.symm)]
theorem setRow_mod {g t : Nat} {cs cs' : Array Value} (h : W.heap[g]? = some (.cells cs t (0, 0))) : Mod W (W.setRow g cs') (fun k => k = g) [bx g t cs'] :=
  ⟨rfl, rfl, rfl, by simp [World.setRow], fun k _ hk => setRow_far W g cs' k hk, fun b hb => by obtain rfl := List.mem_singleton.1 hb; exact ⟨setRow_I h, fun k hk => .inl hk⟩, List.pairwise_singleton _ _⟩
theorem run_store_at {ty : TypeId} {u : Value} {g j t : Nat} {cur : Array Value} (hg : W.heap[g]? = some (.cells cur t (0, 0))) (hi : (P.info? ty).map (·.size) = some u.cells.size) (hl : j + u.cells.size ≤ cur.size) (h1 : u.cells.toList.all (·.oneCell') = true) :
    (storeVar ty ⟨g, j, none⟩ u).run P W = .ok () (W.setRow g (over cur j u.cells.toList)) := by
  have := run_storeCells_at P g j t u.cells.toList 0 cur W hg (by simpa using hl) (fun v hv => List.all_eq_true.1 h1 v hv)
  cases hq : P.info? ty with
  | none => simp [hq] at hi
  | some i =>
    have hs : u.cells.size = i.size := by simp [hq] at hi; omega
    simp only [Nat.add_zero] at this
    simp [storeVar, sizeOf, typeInfo, hq, hs, this, over]
theorem run_op_store {ty : TypeId} {x y : Operand} {u : Value} {ad : Addr} (ho : o.op = .store ty x y) (hx : a.eval x = .pointer (some ad)) (hy : a.eval y = u) {w1 : World} (hr : (storeVar ty ad u).run P W = .ok () w1) : (execOp a.eval o).run P W = .ok .skip w1 := by
  unfold execOp
  simp only [ho, hx, hy, Instr.storeAt, Instr.sureAddr, Sem.run_bind, Sem.run_pure, Result.andThen_ok, hr]
theorem stp_skip (hw : Region.wanted o (yielded ops a.tmps) = true) (hN : o.dst = none) (hrun : (execOp a.eval o).run P W = .ok .skip W1) (h : Kc a W1) : Stp P ops Q o a W Kc := by
  unfold Stp
  rw [if_pos hw]
  unfold Oper.wp
  rw [hrun]
  show Kc (a.put o.dst undef) W1
  rw [hN]
  exact h
theorem stp_set (hw : Region.wanted o (yielded ops a.tmps) = true) (hN : o.dst = none) {ty : TypeId} {x y : Operand} (ho : o.op = .store ty x y) (HS : Aside0 (Mod w W S L)) (i j : Nat) {g t : Nat} {cs cs' : Array Value} {u : Value}
    (hi : L[i]? = some (bx g t cs)) (hx : a.eval x = .pointer (some ⟨g, j, none⟩)) (hy : a.eval y = u) (hsz : (P.info? ty).map (·.size) = some u.cells.size) (hl : (decide (j + u.cells.size ≤ cs.size) && u.cells.toList.all (·.oneCell')) = true) (hc : over cs j u.cells.toList = cs')
    (h : ∀ w1, Aside0 (Mod w w1 S (L.set i (bx g t cs'))) → Kc a w1) : Stp P ops Q o a W Kc := by
  rw [Bool.and_eq_true, decide_eq_true_eq] at hl
  subst hc
  have hg := HS.out.at hi
  exact stp_skip hw hN (run_op_store ho hx hy (run_store_at hg hsz hl.1 hl.2)) (h _ ⟨HS.out.turn hi (setRow_mod hg) (fun k hk => .inl hk)⟩)
theorem stp_value {N : Option Tmp} {v : Value} (hw : Region.wanted o (yielded ops a.tmps) = true) (hN : o.dst = N) (hrun : (execOp a.eval o).run P W = .ok (.value v) W1) (h : Kc (a.put N v) W1) : Stp P ops Q o a W Kc := by
  subst hN
  exact value_ hw rfl hrun h
section
variable {α : Type}
theorem row_turn {d : Kd α} {hE : d.E = []} {e : Nat} {v v1 : Value} {xs ys : List α} (h : Mod w W S L) {i : Nat} (hi : L[i]? = some (rw' d hE e v xs)) (hg : W.grownBy W1 v.ownBlock) (hR : d.R e W1 0 (fun _ => True) v1 ys) (hat : v1.ownBlock = v.ownBlock ∨ ∃ b, v1.ownBlock = some b ∧ W.heap.size ≤ b) : Mod w W1 S (L.set i (rw' d hE e v1 ys)) := by
  have hk : ∀ k, v1.ownBlock = some k → v.ownBlock = some k ∨ W.heap.size ≤ k := fun k hk => by
    rcases hat with e1 | ⟨b, e1, hb⟩
    · exact .inl (by rw [← e1]; exact hk)
    · rw [e1] at hk; injection hk with hk; exact .inr (by omega)
  exact h.turn hi ⟨hg.os, hg.tape, hg.output, hg.size, fun k h1 h2 => hg.block k h1 (fun e1 => h2 e1.symm), fun b hb => by obtain rfl := List.mem_singleton.1 hb; exact ⟨hR, hk⟩, List.pairwise_singleton _ _⟩ hk
theorem stp_app (d : Kd α) (hE : d.E = []) (hw : Region.wanted o (yielded ops a.tmps) = true) (HS : Aside0 (Mod w W S L)) (i : Nat) {e : Nat} {v : Value} {xs : List α} (hi : L[i]? = some (rw' d hE e v xs)) (s x : Operand) (t e' : TypeId) (z : Value) (bytes : Nat)
    (ho : o.op = .call { callee := .builtin .append, args := #[s, x], argTypes := #[t, t] }) (ht : P.underlying t = some (.slice e)) (hinfo : (P.info? e).map (fun i => (i.zero, i.size, i.bytes)) = some (some z, d.sz, bytes)) (hz : (decide (z.cells.size = d.sz) && (decide (0 < d.sz) && decide (0 < bytes))) = true)
    (p : α) (cs : List Value) (hs : a.eval s = v) (hx : a.eval x = .slice (some ⟨W.heap.size, 0, none⟩) 1 1) (hp : ∀ W base ok, d.M W base ok p cs) (hl : (xs.length + 1) * bytes ≤ 140737488355328)
    (h : ∀ A c ys w1, Aside0 (ys = xs ++ [p]) → Aside0 (Mod w w1 S (L.set i (rw' d hE e (.slice A ys.length c) ys))) → Kc (a.put o.dst (.slice A ys.length c)) w1) : Stp P ops Q o a (W.alloc (.cells cs.toArray e)) Kc := by
  simp only [Bool.and_eq_true, decide_eq_true_eq] at hz
  refine Kd.R_append_step d (w0 := W) 0 hw s x t e z bytes ho ht hinfo hz.1 hz.2.1 hz.2.2 v xs p cs (fun _ => True) (fun _ => False) hs hx (hp _ _ _) (fun k hk => hk.elim) (fun _ _ => trivial) (HS.out.at hi) (Below.refl _ _) (Nat.zero_le _) hl ?_
  intro v1 w1 hR _ hg hat
  obtain ⟨A, c, rfl⟩ := Kd.R_slice hR
  exact h A c _ w1 ⟨rfl⟩ ⟨row_turn HS.out hi hg hR hat⟩
theorem stp_rows (d : Kd α) (hE : d.E = []) (hKM : ∀ W base ok x cs, d.K W x cs → d.M W base ok x cs) (hw : Region.wanted o (yielded ops a.tmps) = true) (HS : Aside0 (Mod w W S L)) (i : Nat) {e : Nat} {v : Value} {xs : List α} (hi : L[i]? = some (rw' d hE e v xs)) (s x : Operand) (t : TypeId) (z : Value) (bytes : Nat)
    (ho : o.op = .call { callee := .builtin .append, args := #[s, x], argTypes := #[t, t] }) (ht : P.underlying t = some (.slice e)) (hinfo : (P.info? e).map (fun i => (i.zero, i.size, i.bytes)) = some (some z, d.sz, bytes)) (hz : (decide (z.cells.size = d.sz) && (decide (0 < d.sz) && decide (0 < bytes))) = true)
    {A : Option Addr} {m c : Nat} (zs : List α) (hs : a.eval s = v) (hx : a.eval x = .slice A m c) (hr : d.C W A m zs) (hl : (xs.length + m) * bytes ≤ 140737488355328)
    (h : ∀ A c ys w1, Aside0 (ys = xs ++ zs) → Aside0 (Mod w w1 S (L.set i (rw' d hE e (.slice A ys.length c) ys))) → Kc (a.put o.dst (.slice A ys.length c)) w1) : Stp P ops Q o a W Kc := by
  simp only [Bool.and_eq_true, decide_eq_true_eq] at hz
  refine Kd.R_append_rows_step d (w0 := W) 0 hw s x t e z bytes ho ht hinfo hz.1 hz.2.1 hz.2.2 v xs zs A m c (fun _ => True) (fun _ => False) hs hx (HS.out.at hi) hr (fun x cs hk => hKM _ _ _ x cs hk) (fun k hk => hk.elim) (fun _ _ => trivial) (Below.refl _ _) (Nat.zero_le _) hl ?_
  intro v1 w1 hR _ hg hat
  obtain ⟨A, c, rfl⟩ := Kd.R_slice hR
  exact h A c _ w1 ⟨rfl⟩ ⟨row_turn HS.out hi hg hR hat⟩
theorem stp_lit (d : Kd α) (hE : d.E = []) (e : Nat) (hw : Region.wanted o (yielded ops a.tmps) = true) (HS : Aside0 (Mod w W S L)) {xs : List α} {inner : List Value}
    (hrun : (execOp a.eval o).run P W = .ok (.value (.slice (some ⟨W.heap.size, 0, none⟩) xs.length xs.length)) (W.alloc (.cells inner.toArray e))) (hrep : ∀ W base ok, Reps (d.M W base ok) d.sz xs inner) (hm : xs.length ≤ 9223372036854775807)
    (h : ∀ A c w1, Aside0 (Mod w w1 S (rw' d hE e (.slice A xs.length c) xs :: L)) → Kc (a.put o.dst (.slice A xs.length c)) w1) : Stp P ops Q o a W Kc := by
  have hR : d.R e (W.alloc (.cells inner.toArray e)) 0 (fun _ => True) (.slice (some ⟨W.heap.size, 0, none⟩) xs.length xs.length) xs := by
    refine ⟨fun _ _ => trivial, inner, ?_, hrep _ _ _⟩
    have h2 := World.ownsRow_lit (base := 0) (e := e) (size := d.sz) W inner.toArray xs.length (Nat.zero_le _) (by simpa [maxLen] using hm) (by simpa using (hrep W 0 (fun _ => True)).1)
    simpa using h2
  unfold Stp
  rw [if_pos hw]
  unfold Oper.wp
  rw [hrun]
  exact h _ _ _ ⟨HS.out.new (A := [rw' d hE e _ xs]) (Sep.one (below_alloc (Below.refl _ _) _) hR (fun k hk => by
    have hk' : (Value.slice (some ⟨W.heap.size, 0, none⟩) xs.length xs.length).ownBlock = some k := hk
    simp only [Value.ownBlock, Option.some.injEq] at hk'
    omega))⟩
end
end
end Go.Proofs.Ytibjkjhpfmmjoaa.H
namespace Go.Proofs.Ytibjkjhpfmmjoaa.H
open Go.RowKit Go.Proofs.YtibjkjhpfmmjoaaW.PrintWords Go.Proofs.YtibjkjhpfmmjoaaW.PrintLast Go.Proofs.YtibjkjhpfmmjoaaW.PrintMore Go.Proofs.Ytibjkjhpfmmjoaa.M
set_option linter.unusedVariables false
set_option linter.unusedSimpArgs false
inductive Plan where
  | done
  | p (i : Nat) (r : Plan)
  | t (i : Nat) (r : Plan)
  | e (i : Nat) (r : Plan)
  | d (i : Nat) (r : Plan)
  | two (i j : Nat) (r s : Plan)
  | three (i j k : Nat) (r s u : Plan)
def Plan.depth : Plan → Nat
  | .done => 0
  | .p _ r => r.depth + 1
  | .t _ r => r.depth + 1
  | .e _ r => r.depth + 1
  | .d _ r => r.depth + 1
  | .two _ _ r s => max r.depth s.depth + 1
  | .three _ _ _ r s u => max r.depth (max s.depth u.depth) + 1
section
variable (P : Program) (md : Region.Mode) (ops : Array Oper) (Q : Exit → Act → World → Prop) (S : World → Prop) (ds : List Nat)
def Plan.fits : Plan → Array Bool → Bool
  | .done, l => Region.ready md ops l == []
  | .p i r, l => anyB md ops l (l.setIfInBounds i true) i && r.fits (l.setIfInBounds i true)
  | .t i r, l => takeB md ops ds l (l.setIfInBounds i true) i && r.fits (l.setIfInBounds i true)
  | .e i r, l => readyB md ops l (l.setIfInBounds i true) i && (!ds.contains i && r.fits (l.setIfInBounds i true))
  | .d i r, l => readyB md ops l (l.setIfInBounds i true) i && (ds.contains i && r.fits (l.setIfInBounds i true))
  | .two i j r s, l => (Region.ready md ops l == [i, j] && l.setIfInBounds i true == l.setIfInBounds i true && l.setIfInBounds j true == l.setIfInBounds j true) && ((!ds.contains i && !ds.contains j) && (r.fits (l.setIfInBounds i true) && s.fits (l.setIfInBounds j true)))
  | .three i j k r s u, l => (Region.ready md ops l == [i, j, k] && l.setIfInBounds i true == l.setIfInBounds i true && l.setIfInBounds j true == l.setIfInBounds j true && l.setIfInBounds k true == l.setIfInBounds k true) && ((!ds.contains i && (!ds.contains j && !ds.contains k)) && (r.fits (l.setIfInBounds i true) && (s.fits (l.setIfInBounds j true) && u.fits (l.setIfInBounds k true))))
def OpAt (i : Nat) (K : Oper → Prop) : Prop := ∀ o, ops[i]? = some o → K o
def RunE (i : Nat) (a : Act) (w : World) (r : Act → World → Prop) : Prop := OpAt ops i fun o => ∀ K : Act → World → Prop, Shut (∀ a' w', S w' → (S w' → r a' w') → K a' w') → Stp P ops Q o a w K
def RunD (i : Nat) (a : Act) (w : World) (r : Act → World → Prop) : Prop := OpAt ops i fun o => ∀ K : Act → World → Prop, Shut (∀ a' w', r a' w' → K a' w') → Stp P ops Q o a w K
def Plan.run : Plan → Act → World → Prop
  | .done, a, w => Q .normal a w
  | .p i r, a, w => OpAt ops i fun o => ∃ v, Yields P ops o v a ∧ Plan.run r (a.put o.dst v) w
  | .t i r, a, w => OpAt ops i fun o => ∃ v, YieldsIf P ops S o v a ∧ S w ∧ Plan.run r (a.put o.dst v) w
  | .e i r, a, w => RunE P ops Q S i a w (Plan.run r)
  | .d i r, a, w => RunD P ops Q i a w (Plan.run r)
  | .two i j r s, a, w => RunE P ops Q S i a w (Plan.run r) ∧ RunE P ops Q S j a w (Plan.run s)
  | .three i j k r s u, a, w => RunE P ops Q S i a w (Plan.run r) ∧ RunE P ops Q S j a w (Plan.run s) ∧ RunE P ops Q S k a w (Plan.run u)
end
section
variable {P : Program} {md : Region.Mode} {ops : Array Oper} {Q : Exit → Act → World → Prop} {S : World → Prop} {ds : List Nat}
theorem ready_ops {i : Nat} {l : Array Bool} (h : i ∈ Region.ready md ops l) : ∃ o, ops[i]? = some o := by
  obtain ⟨_, o, ho, _⟩ := mem_ready.1 h
  exact ⟨o, ho⟩
theorem ready_any {i : Nat} {l l' : Array Bool} (h : anyB md ops l l' i = true) : ∃ o, ops[i]? = some o := by
  simp only [anyB, Bool.and_eq_true] at h
  exact ready_ops (by simpa using h.1.2)
theorem ready_take {i : Nat} {l l' : Array Bool} (h : takeB md ops ds l l' i = true) : ∃ o, ops[i]? = some o := by
  simp only [takeB, Bool.and_eq_true] at h
  exact ready_ops (by simpa using h.1.1.1.2)
theorem ready_one {i : Nat} {l l' : Array Bool} (h : readyB md ops l l' i = true) : ∃ o, ops[i]? = some o := by
  simp only [readyB, Bool.and_eq_true, beq_iff_eq] at h
  exact ready_ops (by rw [h.1]; exact List.mem_singleton.2 rfl)
theorem Plan.sound (hQ : ∀ c (a : Act) (d : Option Tmp) (v : Value) (w : World), Q (.panic c) (a.put d v) w → Q (.panic c) a w) (p : Plan) :
    ∀ (l : Array Bool) (fuel : Nat) (a : Act) (w : World), p.fits md ops ds l = true → p.depth ≤ fuel → p.run P ops Q S a w → wpAnyLast P md ops Q S ds fuel l a w := by
  have toE : ∀ {r : Plan} {i : Nat} {o : Oper} {l' : Array Bool} {f : Nat} {a : Act} {w : World} (ih : ∀ (l : Array Bool) (fuel : Nat) (a : Act) (w : World), r.fits md ops ds l = true → r.depth ≤ fuel → r.run P ops Q S a w → wpAnyLast P md ops Q S ds fuel l a w)
      (hf : r.fits md ops ds l' = true) (hd : r.depth ≤ f) (ho : ops[i]? = some o) (hr : RunE P ops Q S i a w (r.run P ops Q S)) (K : Act → World → Prop) (hK : Shut (∀ a' w', S w' → (S w' → wpAnyLast P md ops Q S ds f l' a' w') → K a' w')),
      if Region.wanted o (yielded ops a.tmps) = true then Oper.wp P o a w K Q else K (a.put o.dst undef) w := fun ih hf hd ho hr K hK => hr _ ho K (fun a' w' hS h => hK.out a' w' hS (fun hs => ih _ _ _ _ hf hd (h hs)))
  induction p with
  | done => exact fun l fuel a w hf _ hr => done_ hf hr
  | p i r ih =>
    intro l fuel a w hf hd hr
    simp only [Plan.fits, Bool.and_eq_true] at hf
    obtain ⟨f, rfl⟩ : ∃ f, fuel = f + 1 := ⟨fuel - 1, by simp only [Plan.depth] at hd; omega⟩
    obtain ⟨o, ho⟩ := ready_any hf.1
    obtain ⟨v, hy, hrun⟩ := hr o ho
    exact pure_ _ ho rfl hf.1 (fun c a w => hQ c a o.dst v w) hy rfl (ih _ _ _ _ hf.2 (by simp only [Plan.depth] at hd; omega) hrun)
  | t i r ih =>
    intro l fuel a w hf hd hr
    simp only [Plan.fits, Bool.and_eq_true] at hf
    obtain ⟨f, rfl⟩ : ∃ f, fuel = f + 1 := ⟨fuel - 1, by simp only [Plan.depth] at hd; omega⟩
    obtain ⟨o, ho⟩ := ready_take hf.1
    obtain ⟨v, hy, hS, hrun⟩ := hr o ho
    exact take_ _ ho rfl hf.1 (fun c a w => hQ c a o.dst v w) hy hS rfl (ih _ _ _ _ hf.2 (by simp only [Plan.depth] at hd; omega) hrun)
  | e i r ih =>
    intro l fuel a w hf hd hr
    simp only [Plan.fits, Bool.and_eq_true, Bool.not_eq_true', List.contains_eq_mem, decide_eq_false_iff_not] at hf
    obtain ⟨f, rfl⟩ : ∃ f, fuel = f + 1 := ⟨fuel - 1, by simp only [Plan.depth] at hd; omega⟩
    obtain ⟨o, ho⟩ := ready_one hf.1
    exact one_ _ ho rfl hf.1 hf.2.1 (toE ih hf.2.2 (by simp only [Plan.depth] at hd; omega) ho hr)
  | d i r ih =>
    intro l fuel a w hf hd hr
    simp only [Plan.fits, Bool.and_eq_true, List.contains_eq_mem, decide_eq_true_eq] at hf
    obtain ⟨f, rfl⟩ : ∃ f, fuel = f + 1 := ⟨fuel - 1, by simp only [Plan.depth] at hd; omega⟩
    obtain ⟨o, ho⟩ := ready_one hf.1
    exact last_ _ ho rfl hf.1 hf.2.1 (fun K hK => hr _ ho K (fun a' w' h => hK.out a' w' (ih _ _ _ _ hf.2.2 (by simp only [Plan.depth] at hd; omega) h)))
  | two i j r s ihr ihs =>
    intro l fuel a w hf hd hr
    simp only [Plan.fits] at hf
    rw [Bool.and_eq_true] at hf
    obtain ⟨h0, hf⟩ := hf
    simp only [Bool.and_eq_true, Bool.not_eq_true', List.contains_eq_mem, decide_eq_false_iff_not] at hf
    simp only [Plan.depth] at hd
    obtain ⟨f, rfl⟩ : ∃ f, fuel = f + 1 := ⟨fuel - 1, by omega⟩
    have hrd : Region.ready md ops l = [i, j] := by
      simp only [Bool.and_eq_true, beq_iff_eq] at h0
      exact h0.1.1
    obtain ⟨o, ho⟩ := ready_ops (i := i) (l := l) (md := md) (ops := ops) (by rw [hrd]; simp)
    obtain ⟨o', ho'⟩ := ready_ops (i := j) (l := l) (md := md) (ops := ops) (by rw [hrd]; simp)
    exact two_ _ _ ho ho' rfl rfl h0 hf.1.1 hf.1.2 (toE ihr hf.2.1 (by omega) ho hr.1) (toE ihs hf.2.2 (by omega) ho' hr.2)
  | three i j k r s u ihr ihs ihu =>
    intro l fuel a w hf hd hr
    simp only [Plan.fits] at hf
    rw [Bool.and_eq_true] at hf
    obtain ⟨h0, hf⟩ := hf
    simp only [Bool.and_eq_true, Bool.not_eq_true', List.contains_eq_mem, decide_eq_false_iff_not] at hf
    simp only [Plan.depth] at hd
    obtain ⟨f, rfl⟩ : ∃ f, fuel = f + 1 := ⟨fuel - 1, by omega⟩
    have hrd : Region.ready md ops l = [i, j, k] := by
      simp only [Bool.and_eq_true, beq_iff_eq] at h0
      exact h0.1.1.1
    obtain ⟨o, ho⟩ := ready_ops (i := i) (l := l) (md := md) (ops := ops) (by rw [hrd]; simp)
    obtain ⟨o', ho'⟩ := ready_ops (i := j) (l := l) (md := md) (ops := ops) (by rw [hrd]; simp)
    obtain ⟨o'', ho''⟩ := ready_ops (i := k) (l := l) (md := md) (ops := ops) (by rw [hrd]; simp)
    exact three_ _ _ _ ho ho' ho'' rfl rfl rfl h0 hf.1.1 hf.1.2.1 hf.1.2.2 (toE ihr hf.2.1 (by omega) ho hr.1) (toE ihs hf.2.2.1 (by omega) ho' hr.2.1) (toE ihu hf.2.2.2 (by omega) ho'' hr.2.2)
theorem plan_start {id : Nat} {a : Act} {w : World} (p : Plan) (S : World → Prop) (ds : List Nat) (hm : P.follows .mixedOrders = true) (hf : (Nat.ble p.depth ops.size && p.fits .any ops ds (Array.replicate ops.size false)) = true)
    (hQ : ∀ c (a : Act) (d : Option Tmp) (v : Value) (w : World), Q (.panic c) (a.put d v) w → Q (.panic c) a w) (hS : S w.drew) (h : S w.drew → p.run P ops Q S a w.drew) : (Code.region id ops true).wp P Q a w := by
  rw [Bool.and_eq_true] at hf
  exact wp_region_last_drew hm hS (fun hs => Plan.sound hQ p _ _ _ _ hf.2 (Nat.le_of_ble_eq_true hf.1) (h hs))
theorem gate_p {i : Nat} {r : Plan} {a : Act} {w : World} (h : (Plan.p i r).run P ops Q S a w) : (Plan.p i r).run P ops Q S a w := h
theorem gate_t {i : Nat} {r : Plan} {a : Act} {w : World} (h : (Plan.t i r).run P ops Q S a w) : (Plan.t i r).run P ops Q S a w := h
theorem run_p {i : Nat} {r : Plan} {N : Option Tmp} {o : Oper} {v : Value} {a : Act} {w : World} (ho : ops.toList[i]? = some o) (hN : o.dst = N) (hy : Yields P ops o v a) {a' : Act} (ha : a.put N v = a') (h : r.run P ops Q S a' w) : (Plan.p i r).run P ops Q S a w := by
  intro o' ho'
  rw [Array.getElem?_toList] at ho
  obtain rfl := Option.some.inj (ho.symm.trans ho')
  subst hN ha
  exact ⟨v, hy, h⟩
theorem run_t {i : Nat} {r : Plan} {N : Option Tmp} {o : Oper} {v : Value} {a : Act} {w : World} (ho : ops.toList[i]? = some o) (hN : o.dst = N) (hS : S w) (hy : YieldsIf P ops S o v a) {a' : Act} (ha : a.put N v = a') (h : r.run P ops Q S a' w) : (Plan.t i r).run P ops Q S a w := by
  intro o' ho'
  rw [Array.getElem?_toList] at ho
  obtain rfl := Option.some.inj (ho.symm.trans ho')
  subst hN ha
  exact ⟨v, hy, hS, h⟩
theorem run_e {i : Nat} {r : Plan} {o : Oper} {a : Act} {w : World} (ho : ops.toList[i]? = some o) (h : ∀ K : Act → World → Prop, Shut (∀ a' w', S w' → (S w' → r.run P ops Q S a' w') → K a' w') → Stp P ops Q o a w K) : (Plan.e i r).run P ops Q S a w := by
  intro o' ho'
  rw [Array.getElem?_toList] at ho
  obtain rfl := Option.some.inj (ho.symm.trans ho')
  exact h
theorem run_d {i : Nat} {r : Plan} {o : Oper} {a : Act} {w : World} (ho : ops.toList[i]? = some o) (h : ∀ K : Act → World → Prop, Shut (∀ a' w', r.run P ops Q S a' w' → K a' w') → Stp P ops Q o a w K) : (Plan.d i r).run P ops Q S a w := by
  intro o' ho'
  rw [Array.getElem?_toList] at ho
  obtain rfl := Option.some.inj (ho.symm.trans ho')
  exact h
theorem run_two {i j : Nat} {r s : Plan} {a : Act} {w : World} (h1 : (Plan.e i r).run P ops Q S a w) (h2 : (Plan.e j s).run P ops Q S a w) : (Plan.two i j r s).run P ops Q S a w := ⟨h1, h2⟩
theorem run_done {a : Act} {w : World} (h : Q .normal a w) : Plan.done.run P ops Q S a w := h
theorem goE {r : Act → World → Prop} {K : Act → World → Prop} (hK : Shut (∀ a' w', S w' → (S w' → r a' w') → K a' w')) {a : Act} {w : World} (hS : S w) {a' : Act} (ha : a = a') (h : S w → r a' w) : K a w := by
  subst ha
  exact hK.out _ _ hS h
theorem goD {r : Act → World → Prop} {K : Act → World → Prop} (hK : Shut (∀ a' w', r a' w' → K a' w')) {a : Act} {w : World} {a' : Act} (ha : a = a') (h : r a' w) : K a w := by
  subst ha
  exact hK.out _ _ h
def Told (Q : Exit → Act → World → Prop) (T : Act → World → Prop) : Exit → Act → World → Prop
  | .normal, a, w => T a w
  | e, a, w => Q e a w
theorem region_told {id : Nat} {b : Bool} {a : Act} {w : World} (T : Act → World → Prop) (h1 : (Code.region id ops b).wp P (Told Q T) a w) (h2 : ∀ a' w', T a' w' → Q .normal a' w') : (Code.region id ops b).wp P Q a w :=
  Code.wp_mono (fun e a w h => by cases e <;> first | exact h2 _ _ h | exact h) h1
end
end Go.Proofs.Ytibjkjhpfmmjoaa.H
namespace Go.Proofs.Ytibjkjhpfmmjoaa.H
open Go.RowKit Go.Proofs.YtibjkjhpfmmjoaaW.PrintWords Go.Proofs.YtibjkjhpfmmjoaaW.PrintLast Go.Proofs.YtibjkjhpfmmjoaaW.PrintMore Go.Proofs.Ytibjkjhpfmmjoaa.M
set_option linter.unusedVariables false
set_option linter.unusedSimpArgs false
section
variable {P : Program} {md : Region.Mode} {ops : Array Oper} {Q : Exit → Act → World → Prop} {S : World → Prop} {ds : List Nat}
theorem rp {i : Nat} {r : Plan} {N : Option Tmp} {o : Oper} {v : Value} {a a' : Act} {w : World} (ho : ops.toList[i]? = some o) (hN : o.dst = N) (h : r.run P ops Q S a' w) (hw : Region.wanted o (yielded ops a.tmps) = true := by rfl)
    (hy : ∀ w', (execOp a.eval o).run P w' = .ok (.value v) w' := by intro w'; first | (go_simp; with_reducible rfl) | (go_simp; done))
    (ha : a.put N v = a' := by first | (simp only [Act.put, List.setIfInBounds_toArray, List.set_cons_zero, List.set_cons_succ, i64_w, i32_w]; rfl) | simp only [Act.put, List.setIfInBounds_toArray, List.set_cons_zero, List.set_cons_succ, i64_w, i32_w]) : (Plan.p i r).run P ops Q S a w := run_p ho hN (Or.inl ⟨hw, hy⟩) ha h
theorem rp0 {i : Nat} {r : Plan} {N : Option Tmp} {o : Oper} {a a' : Act} {w : World} (ho : ops.toList[i]? = some o) (hN : o.dst = N) (h : r.run P ops Q S a' w) (hw : Region.wanted o (yielded ops a.tmps) = false := by rfl)
    (ha : a.put N undef = a' := by first | (simp only [Act.put, List.setIfInBounds_toArray, List.set_cons_zero, List.set_cons_succ, i64_w, i32_w]; rfl) | simp only [Act.put, List.setIfInBounds_toArray, List.set_cons_zero, List.set_cons_succ, i64_w, i32_w]) : (Plan.p i r).run P ops Q S a w := run_p ho hN (Or.inr ⟨hw, rfl⟩) ha h
theorem rt {i : Nat} {r : Plan} {N : Option Tmp} {o : Oper} {v : Value} {a a' : Act} {w : World} (ho : ops.toList[i]? = some o) (hN : o.dst = N) (hS : S w) (h : r.run P ops Q S a' w) (hw : Region.wanted o (yielded ops a.tmps) = true := by rfl)
    (hy : ∀ w', S w' → (execOp a.eval o).run P w' = .ok (.value v) w' := by intro w' hS_; first | (go_simp; with_reducible rfl) | (go_simp; done))
    (ha : a.put N v = a' := by first | (simp only [Act.put, List.setIfInBounds_toArray, List.set_cons_zero, List.set_cons_succ, i64_w, i32_w]; rfl) | simp only [Act.put, List.setIfInBounds_toArray, List.set_cons_zero, List.set_cons_succ, i64_w, i32_w]) : (Plan.t i r).run P ops Q S a w := run_t ho hN hS (Or.inl ⟨hw, hy⟩) ha h
theorem ge {r : Act → World → Prop} {K : Act → World → Prop} (hK : Shut (∀ a' w', S w' → (S w' → r a' w') → K a' w')) {a a' : Act} {w : World} (hS : S w) (h : S w → r a' w)
    (ha : a = a' := by first | (simp only [Act.put, List.setIfInBounds_toArray, List.set_cons_zero, List.set_cons_succ, i64_w, i32_w]; rfl) | simp only [Act.put, List.setIfInBounds_toArray, List.set_cons_zero, List.set_cons_succ, i64_w, i32_w]) : K a w := goE hK hS ha h
theorem gd {r : Act → World → Prop} {K : Act → World → Prop} (hK : Shut (∀ a' w', r a' w' → K a' w')) {a a' : Act} {w : World} (h : r a' w)
    (ha : a = a' := by first | (simp only [Act.put, List.setIfInBounds_toArray, List.set_cons_zero, List.set_cons_succ, i64_w, i32_w]; rfl) | simp only [Act.put, List.setIfInBounds_toArray, List.set_cons_zero, List.set_cons_succ, i64_w, i32_w]) : K a w := goD hK ha h
theorem ps {id : Nat} {a : Act} {w : World} (p : Plan) (S : World → Prop) (ds : List Nat) (hS : S w.drew) (h : S w.drew → p.run P ops Q S a w.drew) (hm : P.follows .mixedOrders = true := by kernel_rfl) (hf : (Nat.ble p.depth ops.size && p.fits .any ops ds (Array.replicate ops.size false)) = true := by kernel_rfl)
    (hQ : ∀ c (a : Act) (d : Option Tmp) (v : Value) (w : World), Q (.panic c) (a.put d v) w → Q (.panic c) a w := by intro c_ a_ d_ v_ w_ h_; cases d_ <;> exact h_) : (Code.region id ops true).wp P Q a w := plan_start p S ds hm hf hQ hS h
theorem gc {oi : Oper} {N : Option Tmp} {a : Act} {w : World} {K : Act → World → Prop} {f : FuncId} {fn : Func} {xs : Array Operand} {ts : Array TypeId} {args : Array Value} {R : Ending → World → Prop} (hf : P.funcs[f]? = some fn) (con : Calls P f args w R)
    (hN : oi.dst = N) (hop : oi.op = .call { callee := .value (.func f), args := xs, argTypes := ts }) (h : ∀ e w', R e w' → ∃ v, e = .returned v ∧ K (a.put N v) w')
    (hargs : xs.map a.eval = args := by simp only [List.map_toArray, List.map_cons, List.map_nil]; rfl) (hname : (fn.name == "runtime.NumGoroutine") = false := by kernel_rfl) (hb : fn.body.isSome = true := by rfl)
    (hw : Region.wanted oi (yielded ops a.tmps) = true := by rfl) : Stp P ops Q oi a w K := by
  subst hN
  exact goes_ hf hname hb args hw rfl hop hargs (con.mono h)
end
section
variable {P : Program} {ops : Array Oper} {o : Oper} {a : Act} {Q : Exit → Act → World → Prop} {Kc : Act → World → Prop} {rest : List Oper} {w W W1 : World} {S : Nat → Prop} {L : List As}
theorem sB (HS : Aside0 (Mod w W S L)) (hb : Below W.heap.size W W1) : Aside0 (Mod w W1 S L) := ⟨HS.out.call hb⟩
theorem sD (HS : Aside0 (Mod w W S L)) : Aside0 (Mod w W.drew S L) := ⟨HS.out.drew⟩
theorem sN1 {x : As} (HS : Aside0 (Mod w W S L)) (hs : Sep W W1 [x]) : Aside0 (Mod w W1 S (x :: L)) := ⟨HS.out.new hs⟩
theorem sN2 {x y : As} (HS : Aside0 (Mod w W S L)) (hs : Sep W W1 [x, y]) : Aside0 (Mod w W1 S (x :: y :: L)) := ⟨HS.out.new hs⟩
theorem sM1 {x y : As} (HS : Aside0 (Mod w W S L)) (i : Nat) (is : List Nat) (hi : L[i]? = some x) (hs : Mod W W1 x.S [y]) (hn : (i :: is).Nodup := by decide) : Aside0 (Mod w W1 S (y :: is.filterMap (L[·]?))) := by
  have h := HS.out.sel (i :: is) hn
  rw [List.filterMap_cons, hi] at h
  exact ⟨Mod.step (A0 := [x]) (R := is.filterMap (L[·]?)) h hs fun k hk => ⟨x, List.mem_cons_self, hk⟩⟩
theorem sM2 {x y x' y' : As} (HS : Aside0 (Mod w W S L)) (i j : Nat) (is : List Nat) (hi : L[i]? = some x) (hj : L[j]? = some y) (hs : Mod W W1 (fun k => x.S k ∨ y.S k) [x', y']) (hn : (i :: j :: is).Nodup := by decide) : Aside0 (Mod w W1 S (x' :: y' :: is.filterMap (L[·]?))) := by
  have h := HS.out.sel (i :: j :: is) hn
  rw [List.filterMap_cons, hi, List.filterMap_cons, hj] at h
  exact ⟨Mod.step (A0 := [x, y]) (R := is.filterMap (L[·]?)) h hs fun k hk => hk.elim (fun h => ⟨x, List.mem_cons_self, h⟩) (fun h => ⟨y, List.mem_cons_of_mem _ List.mem_cons_self, h⟩)⟩
theorem sX (HS : Aside0 (Mod w W S L)) (is : List Nat) (hn : is.Nodup := by decide) : Aside0 (Mod w W S (is.filterMap (L[·]?))) := ⟨HS.out.sel is hn⟩
theorem bx1 (t : TypeId) (cs : Array Value) (HS : Aside0 (Mod w W S L)) (h : ∀ g w1, w.heap.size ≤ g → Aside0 (Mod w w1 S (bx g t cs :: L)) → Kc (a.put o.dst (.pointer (some ⟨g, 0, none⟩))) w1)
    (hrun : (execOp a.eval o).run P W = .ok (.value (.pointer (some ⟨W.heap.size, 0, none⟩))) (W.alloc (.cells cs t (0, 0))) := by first | (go_simp; done) | (go_simp; rfl)) (hw : Region.wanted o (yielded ops a.tmps) = true := by rfl) : Stp P ops Q o a W Kc := stp_box hw HS hrun h
theorem bxL (t : TypeId) (cs : Array Value) (HS : Aside0 (Mod w W S L)) (h : ∀ g w1, w.heap.size ≤ g → Aside0 (Mod w w1 S (bx g t cs :: L)) → wpList P ops Q rest (a.put o.dst (.pointer (some ⟨g, 0, none⟩))) w1)
    (hrun : (execOp a.eval o).run P W = .ok (.value (.pointer (some ⟨W.heap.size, 0, none⟩))) (W.alloc (.cells cs t (0, 0))) := by first | (go_simp; done) | (go_simp; rfl)) (hw : Region.wanted o (yielded ops a.tmps) = true := by rfl) : wpList P ops Q (o :: rest) a W :=
  wpList_stp fun K hK => stp_box hw HS hrun fun g w1 hg hs => hK _ _ (h g w1 hg hs)
theorem st1 {ty : TypeId} {x y : Operand} {g t : Nat} {cs : Array Value} {u : Value} {L' : List As} (HS : Aside0 (Mod w W S L)) (i j : Nat) (cs' : Array Value) (hN : o.dst = none) (ho : o.op = .store ty x y) (hi : L[i]? = some (bx g t cs)) (hx : a.eval x = .pointer (some ⟨g, j, none⟩)) (hy : a.eval y = u)
    (h : ∀ w1, Aside0 (Mod w w1 S L') → Kc a w1) (hL : L.set i (bx g t cs') = L' := by simp only [List.set_cons_zero, List.set_cons_succ]; rfl) (hsz : (P.info? ty).map (·.size) = some u.cells.size := by kernel_rfl) (hl : (decide (j + u.cells.size ≤ cs.size) && u.cells.toList.all (·.oneCell')) = true := by rfl)
    (hc : over cs j u.cells.toList = cs' := by rfl) (hw : Region.wanted o (yielded ops a.tmps) = true := by rfl) : Stp P ops Q o a W Kc := by
  subst hL
  exact stp_set hw hN ho HS i j hi hx hy hsz hl hc h
theorem stL {ty : TypeId} {x y : Operand} {g t : Nat} {cs : Array Value} {u : Value} {L' : List As} (HS : Aside0 (Mod w W S L)) (i j : Nat) (cs' : Array Value) (hN : o.dst = none) (ho : o.op = .store ty x y) (hi : L[i]? = some (bx g t cs)) (hx : a.eval x = .pointer (some ⟨g, j, none⟩)) (hy : a.eval y = u)
    (h : ∀ w1, Aside0 (Mod w w1 S L') → wpList P ops Q rest a w1) (hL : L.set i (bx g t cs') = L' := by simp only [List.set_cons_zero, List.set_cons_succ]; rfl) (hsz : (P.info? ty).map (·.size) = some u.cells.size := by kernel_rfl) (hl : (decide (j + u.cells.size ≤ cs.size) && u.cells.toList.all (·.oneCell')) = true := by rfl)
    (hc : over cs j u.cells.toList = cs' := by rfl) (hw : Region.wanted o (yielded ops a.tmps) = true := by rfl) : wpList P ops Q (o :: rest) a W := by
  subst hL
  exact wpList_stp fun K hK => stp_set hw hN ho HS i j hi hx hy hsz hl hc fun w1 hs => hK _ _ (h w1 hs)
end
end Go.Proofs.Ytibjkjhpfmmjoaa.H
namespace Go.Proofs.Ytibjkjhpfmmjoaa.H
open Go.RowKit Go.Proofs.YtibjkjhpfmmjoaaW.PrintWords Go.Proofs.YtibjkjhpfmmjoaaW.PrintLast Go.Proofs.YtibjkjhpfmmjoaaW.PrintMore Go.Proofs.Ytibjkjhpfmmjoaa.M
set_option linter.unusedVariables false
set_option linter.unusedSimpArgs false
def zT : Tm := (⟨#[]⟩, 0, 0)
theorem tm_at {w : World} {A : Option Addr} {n : Nat} {l : Ts} (h : KT.C w A n l) (i : Nat) (hi : i < n) :
    ∃ ad, A = some ad ∧ w.cell? (ad.add (i * 3)) = some (.string (l.getD i zT).1) ∧ w.cell? ⟨(ad.add (i * 3)).block, (ad.add (i * 3)).off + 1, none⟩ = some (.int .i64 (l.getD i zT).2.1) ∧ w.cell? ⟨(ad.add (i * 3)).block, (ad.add (i * 3)).off + 2, none⟩ = some (.int .i64 (l.getD i zT).2.2) := by
  obtain ⟨ad, c, hA, hl, ⟨c0, c12, rfl, h0, c1, c2, rfl, h1, h2⟩, hc⟩ := Kd.C_get h zT (i : Int) (by omega) (by omega)
  simp only [Int.toNat_natCast] at hc h0 h1 h2
  have h0' : c0 = [.string (l.getD i zT).1] := h0
  have h1' : c1 = [.int .i64 (l.getD i zT).2.1] := h1
  have h2' : c2 = [.int .i64 (l.getD i zT).2.2] := h2
  subst h0' h1' h2'
  exact ⟨ad, hA, hc 0 _ rfl, by rw [← add_field ad (i * 3) 1 (by omega)]; exact hc 1 _ rfl, by rw [← add_field ad (i * 3) 2 (by omega)]; exact hc 2 _ rfl⟩
theorem getD_lt {α : Type} (l : List α) (z : α) (k : Nat) (h : k < l.length) : l.getD k z = l[k] := by rw [List.getD_eq_getElem?_getD, List.getElem?_eq_getElem h]; rfl
abbrev KF : Kd Fr := Kd.pair (Kd.int .i64) (Kd.int .i64)
theorem infoTerm : (Try.prog.info? 38).map (fun i => (i.zero, i.size, i.bytes)) = some (some (.agg #[(.string ⟨#[]⟩), (.int .i64 0), (.int .i64 0)]), 3, 32) := by kernel_rfl
theorem infoFrac : (Try.prog.info? 34).map (fun i => (i.zero, i.size, i.bytes)) = some (some (.agg #[(.int .i64 0), (.int .i64 0)]), 2, 16) := by kernel_rfl
theorem infoString : (Try.prog.info? 9).map (fun i => (i.zero, i.size, i.bytes)) = some (some (.string ⟨#[]⟩), 1, 16) := by kernel_rfl
theorem infoInt64 : (Try.prog.info? 2).map (fun i => (i.zero, i.size, i.bytes)) = some (some (.int .i64 0), 1, 8) := by kernel_rfl
theorem KT_M (t : Tm) (W : World) (base : Nat) (ok : Nat → Prop) : KT.M W base ok t [.string t.1, .int .i64 t.2.1, .int .i64 t.2.2] := ⟨[.string t.1], [.int .i64 t.2.1, .int .i64 t.2.2], rfl, rfl, [.int .i64 t.2.1], [.int .i64 t.2.2], rfl, rfl, rfl⟩
theorem KF_M (t : Fr) (W : World) (base : Nat) (ok : Nat → Prop) : KF.M W base ok t [.int .i64 t.1, .int .i64 t.2] := ⟨[.int .i64 t.1], [.int .i64 t.2], rfl, rfl, rfl⟩
theorem str_eq (a b : ByteArray) : (a.toList == b.toList) = decide (a = b) := by
  rw [ByteArray.toList_eq, ByteArray.toList_eq]
  by_cases h : a = b
  · subst h; simp
  · rw [decide_eq_false h, beq_eq_false_iff_ne]
    exact fun e => h (bl_ext e)
theorem c2 {W : World} {b o : Nat} {v : Value} (h : W.cell? ⟨b, o + 2, none⟩ = some v) : W.cell? ⟨b, o + 1 + 1, none⟩ = some v := h
theorem quietB {P : Program} {f : FuncId} {args : Array Value} {w : World} {v : Value} (h : Calls P f args w fun e w' => e = .returned v ∧ ∃ n, w' = w.drewN n) : Calls P f args w fun e w' => e = .returned v ∧ Below w.heap.size w w' :=
  h.mono fun _ _ ⟨h, n, hn⟩ => ⟨h, by rw [hn]; exact pw_below_drewN (Below.refl _ _) n⟩
theorem round_next {p : Nat → Prop} {k : Nat} (h : ∀ j, j < k → p j) (hk : p k) : ∀ j, j < k + 1 → p j := fun j hj => (Nat.lt_succ_iff_lt_or_eq.1 hj).elim (h j) (fun e => e ▸ hk)
end Go.Proofs.Ytibjkjhpfmmjoaa.H


namespace Go.Proofs.Ytibjkjhpfmmjoaa.H
open Go.RowKit Go.Proofs.YtibjkjhpfmmjoaaW.PrintWords Go.Proofs.YtibjkjhpfmmjoaaW.PrintLast Go.Proofs.YtibjkjhpfmmjoaaW.PrintMore Go.Proofs.Ytibjkjhpfmmjoaa.M
set_option linter.unusedVariables false
set_option linter.unusedSimpArgs false
variable {w W W1 : World} {S : Nat → Prop} {L : List As}
def tc (t : Tm) : List Value := [.string t.1, .int .i64 t.2.1, .int .i64 t.2.2]
def flat (l : Ts) : List Value := l.flatMap tc
theorem flat_length (l : Ts) : (flat l).length = l.length * 3 := by
  unfold flat
  induction l with
  | nil => rfl
  | cons t r ih => rw [List.flatMap_cons, List.length_append, ih, List.length_cons, Nat.add_mul]; simp [tc]; omega
theorem flat_append (l m : Ts) : flat (l ++ m) = flat l ++ flat m := by unfold flat; rw [List.flatMap_append]
theorem flat_split (l : Ts) (k : Nat) (hk : k < l.length) : flat l = flat (l.take k) ++ (tc (l.getD k zT) ++ flat (l.drop (k + 1))) := by
  rw [getD_lt l zT k hk]
  conv => lhs; rw [← List.take_append_drop k l]
  rw [flat_append, List.drop_eq_getElem_cons hk]
  rfl
theorem flat_at (l : Ts) (k j : Nat) (hk : k < l.length) (hj : j < 3) : (flat l)[k * 3 + j]? = (tc (l.getD k zT))[j]? := by
  rw [flat_split l k hk, List.getElem?_append_right (by rw [flat_length, List.length_take]; omega), flat_length, List.length_take]
  rw [show k * 3 + j - min k l.length * 3 = j by rw [Nat.min_eq_left (by omega)]; omega, List.getElem?_append_left (by simpa [tc] using hj)]
theorem flat_set (l : Ts) (k : Nat) (t : Tm) (hk : k < l.length) : flat (l.set k t) = (flat l).take (k * 3) ++ (tc t ++ (flat l).drop (k * 3 + 3)) := by
  have hl : (flat (l.take k)).length = k * 3 := by rw [flat_length, List.length_take, Nat.min_eq_left (by omega)]
  rw [flat_split l k hk, List.take_append_of_le_length (by omega), List.take_of_length_le (by omega)]
  rw [List.drop_append, List.drop_of_length_le (by omega), hl, List.nil_append, show k * 3 + 3 - k * 3 = 3 by omega]
  rw [List.drop_append_of_le_length (by simp [tc])]
  rw [show (tc (l.getD k zT)).drop 3 = [] by simp [tc], List.nil_append]
  rw [List.set_eq_take_append_cons_drop, if_pos hk, flat_append]
  rfl
theorem reps_flat {W : World} {base : Nat} {ok : Nat → Prop} : ∀ {l : Ts} {cs : List Value}, Reps (KT.M W base ok) 3 l cs → cs = flat l
  | [], cs, h => List.eq_nil_of_length_eq_zero (by have := h.1; simpa using this)
  | t :: r, cs, h => by
    have h0 := h.2 0 t rfl
    have hlen := h.1
    simp only [List.length_cons] at hlen
    rw [Nat.zero_mul, List.drop_zero] at h0
    obtain ⟨c0, c12, e, k0, c1, c2, e2, k1, k2⟩ := h0
    have k0' : c0 = [.string t.1] := k0
    have k1' : c1 = [.int .i64 t.2.1] := k1
    have k2' : c2 = [.int .i64 t.2.2] := k2
    have e3 : cs.take 3 = tc t := by rw [e, e2, k0', k1', k2']; rfl
    have hr : Reps (KT.M W base ok) 3 r (cs.drop 3) := by
      refine ⟨by rw [List.length_drop]; omega, fun j p hj => ?_⟩
      have := h.2 (j + 1) p (by simpa using hj)
      rw [List.drop_drop]
      rwa [show 3 + j * 3 = (j + 1) * 3 by omega]
    have := reps_flat hr
    rw [← List.take_append_drop 3 cs, e3, this]; rfl
theorem flat_reps {W : World} {base : Nat} {ok : Nat → Prop} (l : Ts) : Reps (KT.M W base ok) 3 l (flat l) := by
  refine ⟨by rw [flat_length], fun j p hj => ?_⟩
  obtain ⟨hj1, rfl⟩ := List.getElem?_eq_some_iff.1 hj
  have : ((flat l).drop (j * 3)).take 3 = tc l[j] := by
    rw [flat_split l j hj1, List.drop_append, List.drop_of_length_le (by rw [flat_length, List.length_take]; omega), List.nil_append, flat_length, List.length_take, Nat.min_eq_left (by omega), Nat.sub_self, List.drop_zero, List.take_append_of_le_length (by simp [tc]), getD_lt l zT j hj1]
    rfl
  rw [this]
  exact KT_M _ _ _ _
abbrev tr (g e : Nat) (l : Ts) (sp : List Value) : As := bx g e (flat l ++ sp).toArray
theorem tr_R {g e cap : Nat} {l : Ts} {sp : List Value} (h : (tr g e l sp).I W) (hc : (flat l ++ sp).length = cap * 3) (hm : cap ≤ 9223372036854775807) : KT.R e W 0 (fun _ => True) (.slice (some ⟨g, 0, none⟩) l.length cap) l := by
  have hlen := flat_length l
  rw [List.length_append] at hc
  refine ⟨fun _ _ => trivial, flat l, ⟨hlen, .inr ⟨g, cap, _, rfl, Nat.zero_le _, h, by omega, by unfold maxLen; omega, ?_, ?_⟩⟩, flat_reps l⟩
  · show (flat l ++ sp).toArray.size = cap * 3
    rw [List.size_toArray, List.length_append]; omega
  · show (flat l ++ sp).take (l.length * 3) = flat l
    rw [← hlen, List.take_left']
    rfl
theorem R_tr {e n c : Nat} {A : Option Addr} {l : Ts} (h : KT.R e W 0 (fun _ => True) (.slice A n c) l) (hn : n = l.length) (hl : 0 < l.length) : ∃ g sp, A = some ⟨g, 0, none⟩ ∧ (tr g e l sp).I W ∧ (flat l ++ sp).length = c * 3 ∧ c ≤ 9223372036854775807 := by
  subst hn
  obtain ⟨_, inner, ⟨h1, h2⟩, hr⟩ := h
  have hi := reps_flat hr
  rcases h2 with ⟨h3, h4⟩ | ⟨g, cap, cur, h3, _, hg, hn, hm, hs, ht⟩
  · omega
  · injection h3 with h3 h4 h5
    subst h3 h5
    refine ⟨g, cur.toList.drop (l.length * 3), rfl, ?_, ?_, by unfold maxLen at hm; omega⟩
    · show W.heap[g]? = _
      rw [hg, ← hi, show inner = cur.toList.take (l.length * 3) from ht.symm, List.take_append_drop]
    · rw [← hi, show inner = cur.toList.take (l.length * 3) from ht.symm, List.take_append_drop]
      show cur.toList.length = c * 3
      rw [Array.length_toList]; exact hs
theorem Mod.asRow (h : Mod w W S L) {i g e cap : Nat} {l : Ts} {sp : List Value} (hi : L[i]? = some (tr g e l sp)) (hc : (flat l ++ sp).length = cap * 3) (hm : cap ≤ 9223372036854775807) : Mod w W S (L.set i (rw' KT rfl e (.slice (some ⟨g, 0, none⟩) l.length cap) l)) :=
  h.turn hi ⟨rfl, rfl, rfl, Nat.le_refl _, fun _ _ _ => rfl, fun b hb => by
    obtain rfl := List.mem_singleton.1 hb
    exact ⟨tr_R (h.at hi) hc hm, fun k hk => .inl (by have hk' : (Value.slice (some ⟨g, 0, none⟩) l.length cap).ownBlock = some k := hk; simp only [Value.ownBlock, Option.some.injEq] at hk'; exact hk'.symm)⟩, List.pairwise_singleton _ _⟩ (fun k hk => .inl (by have hk' : (Value.slice (some ⟨g, 0, none⟩) l.length cap).ownBlock = some k := hk; simp only [Value.ownBlock, Option.some.injEq] at hk'; exact hk'.symm))
theorem Mod.asBlock (h : Mod w W S L) {i g e n c : Nat} {l : Ts} {sp : List Value} (hi : L[i]? = some (rw' KT rfl e (.slice (some ⟨g, 0, none⟩) n c) l)) (hI : (tr g e l sp).I W) : Mod w W S (L.set i (tr g e l sp)) :=
  h.turn hi ⟨rfl, rfl, rfl, Nat.le_refl _, fun _ _ _ => rfl, fun b hb => by
    obtain rfl := List.mem_singleton.1 hb
    exact ⟨hI, fun k hk => .inl (by rw [show k = g from hk]; rfl)⟩, List.pairwise_singleton _ _⟩ (fun k hk => .inl (by rw [show k = g from hk]; rfl))
theorem over_term (l : Ts) (sp : List Value) (k : Nat) (t : Tm) (hk : k < l.length) : over (flat l ++ sp).toArray (k * 3) (tc t) = (flat (l.set k t) ++ sp).toArray := by
  have hl := flat_length l
  unfold over
  simp only [List.toList_toArray]
  congr 1
  rw [flat_set l k t hk, List.take_append_of_le_length (by omega), show (tc t).length = 3 from rfl, List.drop_append_of_le_length (by omega)]
  simp only [List.append_assoc]
section
variable {P : Program} {ops : Array Oper} {o : Oper} {a : Act} {Q : Exit → Act → World → Prop} {Kc : Act → World → Prop}
theorem stp_put_term (hw : Region.wanted o (yielded ops a.tmps) = true) (hN : o.dst = none) {ty : TypeId} {x y : Operand} (ho : o.op = .store ty x y) (HS : Aside0 (Mod w W S L)) (i : Nat) {g e : Nat} {l : Ts} {sp : List Value} (hi : L[i]? = some (tr g e l sp)) (k : Nat) (hk : k < l.length) (t : Tm)
    (hx : a.eval x = .pointer (some ⟨g, k * 3, none⟩)) (hy : a.eval y = .agg #[.string t.1, .int .i64 t.2.1, .int .i64 t.2.2]) (hsz : (P.info? ty).map (·.size) = some 3) (h : ∀ w1, Aside0 (Mod w w1 S (L.set i (tr g e (l.set k t) sp))) → Kc a w1) : Stp P ops Q o a W Kc := by
  have hl := flat_length l
  refine stp_set hw hN ho HS i (k * 3) (cs' := (flat (l.set k t) ++ sp).toArray) hi hx hy hsz ?_ (over_term l sp k t hk) h
  rw [Bool.and_eq_true, decide_eq_true_eq]
  refine ⟨?_, rfl⟩
  show k * 3 + 3 ≤ (flat l ++ sp).toArray.size
  rw [List.size_toArray, List.length_append]; omega
end
theorem tr_cell {g e : Nat} {l : Ts} {sp : List Value} (h : (tr g e l sp).I W) (k j : Nat) (hk : k < l.length) (hj : j < 3) {v : Value} (hv : (tc (l.getD k zT))[j]? = some v) : W.cell? ⟨g, k * 3 + j, none⟩ = some v := by
  refine (blk_cell h (k * 3 + j)).trans ?_
  rw [List.getElem?_toArray, List.getElem?_append_left (by rw [flat_length]; omega), flat_at l k j hk hj]
  exact hv
end Go.Proofs.Ytibjkjhpfmmjoaa.H

