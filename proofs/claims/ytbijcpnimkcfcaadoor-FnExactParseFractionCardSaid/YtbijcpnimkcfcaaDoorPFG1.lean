/- Plain facts and contracts of functions that the law's walk uses. Conditions: those that stand in each statement. -/
import Derived.WalkKit
import Derived.Test.YtbijcpnimkcfcaaDoorProg
import Derived.Below
import Derived.Deep.Draws
import Derived.Deep.AppendLies
import Derived.Maps.AppendAt
import Derived.OwnWalk
import Derived.Laws.BytesArg
import Derived.Laws.MakeOwn
import Derived.Laws.OwnMore
import Derived.Deep.OwnRows
import Derived.Tactics
import Derived.Lib.ConvBytes
import Derived.Laws.Slices
import Derived.KernelRfl
import Derived.RowKit3
import Derived.Deep.LoopGhost
import Derived.Deep.QuietTactic
import Derived.BigQuiet
import Derived.WideLaws
import Derived.Deep.DeepCutAuto
import Derived.Deep.CutBlock
import Derived.Deep.RegionHeld3
import Derived.Laws.Rows
import Derived.Lib.AppendStr
import Derived.ArgAppend
import Derived.Laws.IdiomCopy
import Derived.OrdersHeld
import Derived.Laws.BitsLemmas
import Derived.RowKit
import Derived.Lib.Hide
import Derived.Test.YtbijcpnimkcfcaaDoorWWords
import Derived.Test.YtbijcpnimkcfcaaDoorWLast
import Derived.Test.YtbijcpnimkcfcaaDoorWMore
import Derived.Test.YtbijcpnimkcfcaaDoorWRepsOne
import Derived.Lib.Bytealg
import Derived.Lib.Walk
import Derived.Deep.Slices
import Derived.Deep.Strs
import Derived.Lib.SmallJoins
import Derived.OpenShut
import Derived.Test.YtbijcpnimkcfcaaDoorWTab
import Derived.Laws.CopyRow
import Derived.WalkSpells
import Derived.Deep.RegionWith
import Derived.Lib.IndexBytes
import Derived.WalkLawsBesides
import Derived.Shelf.Strconv.Itoa0
import Derived.Shelf.Strconv.Itoa1
import Derived.Shelf.LaysM
import Derived.Shelf.Strconv.Itoa2
import Derived.Shelf.Strconv.Itoa3
import Derived.Shelf.Strconv.Itoa4
import Derived.Shelf.Strconv.ParseIntEmpty
import Derived.Shelf.Strconv.Clone
import Derived.Shelf.Strconv.Lower
import Derived.Shelf.Strconv.ParseUint10Empty
import Derived.Shelf.Strconv.ParseUintEmpty
import Derived.Lib.AppendIntMem
import Derived.Lib.ParseIntBCases
import Derived.Lib.IndexMore
import Derived.Test.YtbijcpnimkcfcaaDoorRows
import Derived.Stop.LaidErr
set_option linter.unusedVariables false
set_option linter.unusedSimpArgs false

/- Plain facts on whole numbers and fractions: greatest common divisors, lowest terms, what fits. Nothing of the program. Conditions: none. -/
namespace Go.Proofs.YtbijcpnimkcfcaaDoor.M
set_option linter.unusedVariables false
set_option linter.unusedSimpArgs false

theorem gcd_tmod (a b : Int) : Int.gcd b (a.tmod b) = Int.gcd a b := by
  unfold Int.gcd
  rw [Int.natAbs_tmod, Nat.gcd_comm, ← Nat.gcd_rec, Nat.gcd_comm]
theorem tmod_lt {a b : Int} (h : b ≠ 0) : (a.tmod b).natAbs < b.natAbs := by
  rw [Int.natAbs_tmod]; exact Nat.mod_lt _ (by omega)
theorem tmod_le (a b : Int) : (a.tmod b).natAbs ≤ a.natAbs := by
  rw [Int.natAbs_tmod]; exact Nat.mod_le _ _

def inR (a b c : Int) : Bool := decide (b ≤ a ∧ a ≤ c)
theorem inR_iff (a b c : Int) : inR a b c = true ↔ b ≤ a ∧ a ≤ c := by simp [inR]
def isFr (a b : Int) : Bool := inR b 1 1000000000 && (inR a (-1000000000) 1000000000 && decide ((Int.gcd a b : Int) = 1))
theorem isFr_iff (a b : Int) : isFr a b = true ↔ 1 ≤ b ∧ b ≤ 1000000000 ∧ -1000000000 ≤ a ∧ a ≤ 1000000000 ∧ Int.gcd a b = 1 := by
  unfold isFr
  simp only [Bool.and_eq_true, inR_iff, decide_eq_true_eq]
  omega

def sgd (a b : Int) : Int := if b < 0 then -(Int.gcd a b : Int) else (Int.gcd a b : Int)
def rnum (a b : Int) : Int := Int.tdiv a (sgd a b)
def rden (a b : Int) : Int := Int.tdiv b (sgd a b)
def okN (a b : Int) : Bool := isFr (rnum a b) (rden a b)
def frac (a b : Int) : Option (Int × Int) := if b ≠ 0 ∧ okN a b = true then some (rnum a b, rden a b) else none

abbrev Fr := Int × Int
def fr (a : Fr) : Bool := isFr a.1 a.2
def add (a b : Fr) : Option Fr := frac (a.1 * b.2 + b.1 * a.2) (a.2 * b.2)
theorem wrap_id {x : Int} (h0 : -9223372036854775808 ≤ x) (h1 : x ≤ 9223372036854775807) : Go.RowKit.wrap64 x = x := by
  unfold Go.RowKit.wrap64; omega
end Go.Proofs.YtbijcpnimkcfcaaDoor.M

/- The plain words of n letters: what spec.l01Words makes. -/
namespace Go.Proofs.YtbijcpnimkcfcaaDoor.M
end Go.Proofs.YtbijcpnimkcfcaaDoor.M

/- Plain facts on words, their order and their numbers, and on rows of terms. Nothing of the program. Conditions: none. -/
namespace Go.Proofs.YtbijcpnimkcfcaaDoor.M
set_option linter.unusedVariables false
set_option linter.unusedSimpArgs false

/-! ### words -/
def bl (s : ByteArray) : List UInt8 := s.data.toList
theorem bl_ext {s t : ByteArray} (h : bl s = bl t) : s = t := by
  cases s; cases t; simp only [bl] at h; congr; exact Array.toList_inj.1 h
theorem bl_len (s : ByteArray) : (bl s).length = s.size := by simp [bl]
theorem bl_append (s t : ByteArray) : bl (s ++ t) = bl s ++ bl t := by simp [bl]
/-! ### the order -/
abbrev bless := Go.Op.bytesLess
def befL (v w : List UInt8) : Bool := if v.length = w.length then bless v w else decide (v.length < w.length)
def bef (v w : ByteArray) : Bool := befL (bl v) (bl w)
/-! ### rows of terms -/
abbrev Tm := ByteArray × Int × Int
abbrev Ts := List Tm
/-! ### fractions once more -/
/-! ### putting -/
def put : Ts → ByteArray → Fr → Option Ts
  | [], w, a => some (if a.1 = 0 then [] else [(w, a)])
  | t :: r, w, a => if bef t.1 w = true then (put r w a).map (t :: ·) else if t.1 = w then (add t.2 a).map (fun s => if s.1 = 0 then r else (w, s) :: r) else some (if a.1 = 0 then t :: r else (w, a) :: t :: r)
end Go.Proofs.YtbijcpnimkcfcaaDoor.M

/- Which sizes and rows of terms make a series. Conditions: none. -/
namespace Go.Proofs.YtbijcpnimkcfcaaDoor.M
end Go.Proofs.YtbijcpnimkcfcaaDoor.M


/- Small words for the walks: worlds that have grown, returned values. Conditions: none. -/
namespace Go.Proofs.YtbijcpnimkcfcaaDoor.H
open Go.RowKit Go.Proofs.YtbijcpnimkcfcaaDoorW.PrintWords
set_option linter.unusedVariables false
set_option linter.unusedSimpArgs false

theorem ret_int {k : IntKind} {a b : Int} (h : a = b) : Ending.returned (.int k a) = .returned (.int k b) := by rw [h]
theorem ret_bool {a b : Bool} (h : a = b) : Ending.returned (.bool a) = .returned (.bool b) := by rw [h]
theorem ret_str {a b : ByteArray} (h : a = b) : Ending.returned (.string a) = .returned (.string b) := by rw [h]
end Go.Proofs.YtbijcpnimkcfcaaDoor.H

/- Rows of terms in memory: the printed kinds and our own. Conditions: none. -/
namespace Go.Proofs.YtbijcpnimkcfcaaDoor.H
open Go.RowKit Go.Proofs.YtbijcpnimkcfcaaDoorW.PrintWords Go.Proofs.YtbijcpnimkcfcaaDoorW.PrintLast Go.Proofs.YtbijcpnimkcfcaaDoorW.PrintMore Go.Proofs.YtbijcpnimkcfcaaDoor.M
set_option linter.unusedVariables false
section
variable {α β : Type} {d1 : Kd α} {d2 : Kd β}
end
end Go.Proofs.YtbijcpnimkcfcaaDoor.H

/- What comparing two strings returns: proved by walking the library's code. Conditions: none. -/
namespace Go.Proofs.YtbijcpnimkcfcaaDoor.H
open Go.RowKit Go.Proofs.YtbijcpnimkcfcaaDoorW.PrintWords
set_option linter.unusedVariables false
set_option maxRecDepth 100000
end Go.Proofs.YtbijcpnimkcfcaaDoor.H

/- What a series that can be read holds. Conditions: none. -/
namespace Go.Proofs.YtbijcpnimkcfcaaDoor.H
open Go.RowKit Go.ChangeShapes Go.ChangeAt Go.Joins Go.Deep Go.ChangeMaps Go.Proofs.YtbijcpnimkcfcaaDoorW.PrintWords Go.Proofs.YtbijcpnimkcfcaaDoorW.PrintLast Go.Proofs.YtbijcpnimkcfcaaDoorW.PrintMore Go.Proofs.YtbijcpnimkcfcaaDoor.M
set_option linter.unusedVariables false
set_option linter.unusedSimpArgs false

section
variable {P : Program} {t e : TypeId} {α β : Type}
end
end Go.Proofs.YtbijcpnimkcfcaaDoor.H


namespace Go.Proofs.YtbijcpnimkcfcaaDoor.H
open Go.RowKit Go.Proofs.YtbijcpnimkcfcaaDoorW.PrintWords Go.Proofs.YtbijcpnimkcfcaaDoorW.PrintLast Go.Proofs.YtbijcpnimkcfcaaDoorW.PrintMore Go.Proofs.YtbijcpnimkcfcaaDoor.M
set_option linter.unusedVariables false
set_option linter.unusedSimpArgs false
structure As where
  S : Nat → Prop
  I : World → Prop
  mv : ∀ {W W' : World}, (∀ k, S k → W'.heap[k]? = W.heap[k]?) → I W → I W'
  lt : ∀ {W : World}, I W → ∀ k, S k → k < W.heap.size
def bx (g t : Nat) (cs : Array Value) : As where
  S := fun k => k = g
  I := fun W => W.heap[g]? = some (.cells cs t (0, 0))
  mv := fun h hI => (h _ rfl).trans hI
  lt := fun h k hk => by subst hk; exact blk_lt h
theorem R_mv {α : Type} {d : Kd α} (hE : d.E = []) {e base : Nat} {v : Value} {xs : List α} {W W' : World} (hm : ∀ k, v.ownBlock = some k → W'.heap[k]? = W.heap[k]?) (h : d.R e W base (fun _ => True) v xs) : d.R e W' base (fun _ => True) v xs :=
  Kd.R_mono (Kd.R_step (Kd.R_tight hE h) (fun k hk _ => hm k hk.symm)) (fun _ _ => trivial)
def rw' {α : Type} (d : Kd α) (hE : d.E = []) (e : Nat) (v : Value) (xs : List α) : As where
  S := fun k => v.ownBlock = some k
  I := fun W => d.R e W 0 (fun _ => True) v xs
  mv := fun h hI => R_mv hE h hI
  lt := fun h k hk => Kd.R_lt h k hk
structure Mod (w W : World) (S : Nat → Prop) (L : List As) : Prop where
  os : W.os = w.os
  tape : W.tape = w.tape
  output : W.output = w.output
  size : w.heap.size ≤ W.heap.size
  block : ∀ k, k < w.heap.size → ¬ S k → W.heap[k]? = w.heap[k]?
  all : ∀ a ∈ L, a.I W ∧ ∀ k, a.S k → S k ∨ w.heap.size ≤ k
  dis : L.Pairwise fun a b => ∀ k, a.S k → b.S k → False
def No : Nat → Prop := fun _ => False
abbrev Sep (w W : World) (L : List As) : Prop := Mod w W No L
variable {w W W1 : World} {S S1 : Nat → Prop} {L R A : List As}
theorem Mod.below (h : Mod w W No L) : Below w.heap.size w W := ⟨h.os, h.tape, h.output, h.size, fun k hk => h.block k hk id⟩
theorem Sep.of (h : Below w.heap.size w W) : Sep w W [] := ⟨h.os, h.tape, h.output, h.size, fun k hk _ => h.block k hk, fun _ h => absurd h List.not_mem_nil, List.Pairwise.nil⟩
theorem Sep.refl (w : World) : Sep w w [] := .of (Below.refl _ _)
theorem Sep.one {a : As} (h : Below w.heap.size w W) (ha : a.I W) (hn : ∀ k, a.S k → w.heap.size ≤ k) : Sep w W [a] :=
  ⟨h.os, h.tape, h.output, h.size, fun k hk _ => h.block k hk, fun b hb => by obtain rfl := List.mem_singleton.1 hb; exact ⟨ha, fun k hk => .inr (hn k hk)⟩, List.pairwise_singleton _ _⟩
theorem Mod.own {L : List As} (h : ∀ a ∈ L, a.I w) (hd : L.Pairwise fun a b => ∀ k, a.S k → b.S k → False) : Mod w w (fun k => ∃ a ∈ L, a.S k) L :=
  ⟨rfl, rfl, rfl, Nat.le_refl _, fun _ _ _ => rfl, fun a ha => ⟨h a ha, fun k hk => .inl ⟨a, ha, hk⟩⟩, hd⟩
theorem Mod.sel (h : Mod w W S L) (is : List Nat) (hn : is.Nodup) : Mod w W S (is.filterMap (L[·]?)) := by
  refine ⟨h.os, h.tape, h.output, h.size, h.block, fun a ha => ?_, ?_⟩
  · obtain ⟨i, _, hi⟩ := List.mem_filterMap.1 ha
    exact h.all a (List.mem_of_getElem? hi)
  · rw [List.pairwise_filterMap]
    refine hn.imp ?_
    intro i j hij a ha b hb
    have hd := List.pairwise_iff_getElem.1 h.dis
    obtain ⟨hi, rfl⟩ := List.getElem?_eq_some_iff.1 ha
    obtain ⟨hj, rfl⟩ := List.getElem?_eq_some_iff.1 hb
    rcases Nat.lt_or_gt_of_ne hij with h1 | h1
    · exact hd i j hi hj h1
    · exact fun k h2 h3 => hd j i hj hi h1 k h3 h2
theorem Mod.step {A0 : List As} (h : Mod w W S (A0 ++ R)) (k : Mod W W1 S1 A) (hS : ∀ j, S1 j → ∃ a ∈ A0, a.S j) : Mod w W1 S (A ++ R) := by
  obtain ⟨hd1, hd2, hd3⟩ := List.pairwise_append.1 h.dis
  have far : ∀ a ∈ R, ∀ j, a.S j → j < W.heap.size ∧ ¬ S1 j := fun a ha j hj => by
    refine ⟨a.lt (h.all a (List.mem_append_right _ ha)).1 j hj, fun h1 => ?_⟩
    obtain ⟨b, hb, hbj⟩ := hS j h1
    exact hd3 b hb a ha j hbj hj
  have own : ∀ j, S1 j → S j ∨ w.heap.size ≤ j := fun j h1 => by
    obtain ⟨b, hb, hbj⟩ := hS j h1
    exact (h.all b (List.mem_append_left _ hb)).2 j hbj
  refine ⟨k.os.trans h.os, k.tape.trans h.tape, k.output.trans h.output, Nat.le_trans h.size k.size, fun j hj hs => ?_, fun a ha => ?_, ?_⟩
  · have h2 : ¬ S1 j := fun h1 => (own j h1).elim hs (fun h3 => by omega)
    exact (k.block j (Nat.lt_of_lt_of_le hj h.size) h2).trans (h.block j hj hs)
  · rcases List.mem_append.1 ha with ha | ha
    · obtain ⟨h1, h2⟩ := k.all a ha
      exact ⟨h1, fun j hj => (h2 j hj).elim (own j) (fun h3 => .inr (Nat.le_trans h.size h3))⟩
    · obtain ⟨h1, h2⟩ := h.all a (List.mem_append_right _ ha)
      exact ⟨a.mv (fun j hj => k.block j (far a ha j hj).1 (far a ha j hj).2) h1, h2⟩
  · refine List.pairwise_append.2 ⟨k.dis, hd2, fun a ha b hb j h1 h2 => ?_⟩
    obtain ⟨f1, f2⟩ := far b hb j h2
    exact ((k.all a ha).2 j h1).elim f2 (fun h3 => by omega)
theorem Mod.new (h : Mod w W S L) (k : Sep W W1 A) : Mod w W1 S (A ++ L) := Mod.step (A0 := []) h k (fun _ h => h.elim)
theorem Mod.call (h : Mod w W S L) (k : Below W.heap.size W W1) : Mod w W1 S L := h.new (.of k)
theorem Mod.drew (h : Mod w W S L) : Mod w W.drew S L := h.call (below_drew (Below.refl _ _))
theorem Mod.turn (h : Mod w W S L) {i : Nat} {a a' : As} (hi : L[i]? = some a) (k : Mod W W1 a.S [a']) (hs : ∀ j, a'.S j → a.S j ∨ W.heap.size ≤ j) : Mod w W1 S (L.set i a') := by
  obtain ⟨hi1, hi2⟩ := List.getElem?_eq_some_iff.1 hi
  have hall := List.pairwise_iff_getElem.1 h.dis
  have hI := fun j (hj : j < L.length) => h.all L[j] (List.getElem_mem hj)
  have far : ∀ j (hj : j < L.length), j ≠ i → ∀ q, L[j].S q → q < W.heap.size ∧ ¬ a.S q := fun j hj hne q hq => by
    refine ⟨L[j].lt (hI j hj).1 q hq, fun h1 => ?_⟩
    rw [← hi2] at h1
    rcases Nat.lt_or_gt_of_ne hne with h2 | h2
    · exact hall j i hj hi1 h2 q hq h1
    · exact hall i j hi1 hj h2 q h1 hq
  have own : ∀ j, a.S j → S j ∨ w.heap.size ≤ j := by rw [← hi2]; exact (hI i hi1).2
  refine ⟨k.os.trans h.os, k.tape.trans h.tape, k.output.trans h.output, Nat.le_trans h.size k.size, fun j hj hs => ?_, fun b hb => ?_, ?_⟩
  · have h2 : ¬ a.S j := fun h1 => (own j h1).elim hs (fun h3 => by omega)
    exact (k.block j (Nat.lt_of_lt_of_le hj h.size) h2).trans (h.block j hj hs)
  · obtain ⟨j, hj, rfl⟩ := List.getElem_of_mem hb
    rw [List.length_set] at hj
    by_cases hji : i = j
    · subst hji
      rw [List.getElem_set_self]
      obtain ⟨h1, h2⟩ := k.all a' (List.mem_singleton.2 rfl)
      exact ⟨h1, fun q hq => (h2 q hq).elim (own q) (fun h3 => .inr (Nat.le_trans h.size h3))⟩
    · rw [List.getElem_set_ne hji]
      exact ⟨L[j].mv (fun q hq => k.block q (far j hj (Ne.symm hji) q hq).1 (far j hj (Ne.symm hji) q hq).2) (hI j hj).1, (hI j hj).2⟩
  · refine List.pairwise_iff_getElem.2 fun x y hx hy hxy q h1 h2 => ?_
    rw [List.length_set] at hx hy
    rw [List.getElem_set] at h1 h2
    split at h1
    · rename_i e1
      split at h2
      · omega
      · rename_i e2
        obtain ⟨f1, f2⟩ := far y hy (Ne.symm e2) q h2
        exact (hs q h1).elim f2 (fun h3 => by omega)
    · rename_i e1
      split at h2
      · obtain ⟨f1, f2⟩ := far x hx (Ne.symm e1) q h1
        exact (hs q h2).elim f2 (fun h3 => by omega)
      · exact hall x y hx hy hxy q h1 h2
theorem Mod.at (h : Mod w W S L) {i : Nat} {a : As} (hi : L[i]? = some a) : a.I W := (h.all a (List.mem_of_getElem? hi)).1
theorem Mod.rowAt {α : Type} {d : Kd α} {hE : d.E = []} {e : Nat} {v : Value} {xs : List α} (h : Mod w W S L) (i : Nat) (hi : L[i]? = some (rw' d hE e v xs)) : d.R e W 0 (fun _ => True) v xs := h.at hi
theorem Mod.reads {α : Type} {d : Kd α} {hE : d.E = []} {e n c : Nat} {A : Option Addr} {xs : List α} (h : Mod w W S L) (i : Nat) (hi : L[i]? = some (rw' d hE e (.slice A n c) xs)) : d.C W A xs.length xs := (Kd.R_reads' (h.rowAt i hi)).2.2
theorem Mod.nil {α : Type} {d : Kd α} {hE : d.E = []} {e : Nat} (h : Mod w W S L) : Mod w W S (rw' d hE e (.slice none ([] : List α).length 0) [] :: L) :=
  h.new (A := [rw' d hE e (.slice none ([] : List α).length 0) []]) ⟨rfl, rfl, rfl, Nat.le_refl _, fun _ _ _ => rfl, fun b hb => by obtain rfl := List.mem_singleton.1 hb; exact ⟨Kd.R_nil _ _ _ _ _, fun k hk => by have hk' : (Value.slice none 0 0).ownBlock = some k := hk; simp [Value.ownBlock] at hk'⟩, List.pairwise_singleton _ _⟩
theorem Mod.c (h : Mod w W S L) (i j : Nat) {g t : Nat} {cs : Array Value} {v : Value} (hi : L[i]? = some (bx g t cs)) (hj : cs[j]? = some v) : W.cell? ⟨g, j, none⟩ = some v := (blk_cell (h.at hi) j).trans hj
theorem Mod.f (h : Mod w W S L) (i j : Nat) {g t : Nat} {cs : Array Value} (hi : L[i]? = some (bx g t cs)) : W.frozen? ⟨g, j, none⟩ = false := blk_frozen (h.at hi) j
/-! ### events, as steps -/
section
variable {P : Program} {ops : Array Oper} {o : Oper} {a : Act} {Q : Exit → Act → World → Prop} {Kc : Act → World → Prop} {rest : List Oper}
def Stp (P : Program) (ops : Array Oper) (Q : Exit → Act → World → Prop) (o : Oper) (a : Act) (W : World) (Kc : Act → World → Prop) : Prop := if Region.wanted o (yielded ops a.tmps) = true then Oper.wp P o a W Kc Q else Kc (a.put o.dst undef) W
theorem wpList_stp (h : ∀ K : Act → World → Prop, (∀ a w, wpList P ops Q rest a w → K a w) → Stp P ops Q o a W K) : wpList P ops Q (o :: rest) a W := wpList_step h
theorem stp_box (hw : Region.wanted o (yielded ops a.tmps) = true) {cs : Array Value} {t : TypeId} (HS : Aside0 (Mod w W S L))
    (hrun : (execOp a.eval o).run P W = .ok (.value (.pointer (some ⟨W.heap.size, 0, none⟩))) (W.alloc (.cells cs t (0, 0))))
    (h : ∀ g w1, w.heap.size ≤ g → Aside0 (Mod w w1 S (bx g t cs :: L)) → Kc (a.put o.dst (.pointer (some ⟨g, 0, none⟩))) w1) : Stp P ops Q o a W Kc := by
  unfold Stp
  rw [if_pos hw]
  unfold Oper.wp
  rw [hrun]
  exact h _ _ HS.out.size ⟨HS.out.new (A := [bx W.heap.size t cs]) (Sep.one (below_alloc (Below.refl _ _) _) (blk_new W _) (fun k hk => by rw [show k = W.heap.size from hk]; exact Nat.le_refl _))⟩
def over (cs : Array Value) (j : Nat) (vs : List Value) : Array Value := (cs.toList.take j ++ vs ++ cs.toList.drop (j + vs.length)).toArray
theorem setRow_I {g t : Nat} {cs cs' : Array Value} (h : W.heap[g]? = some (.cells cs t (0, 0))) : (W.setRow g cs').heap[g]? = some (.cells cs' t (0, 0)) := setRow_heap W g cs cs' t (0, 0) h
theorem setRow_far (W : World) (g : Nat) (cs : Array Value) (k : Nat) (hk : k ≠ g) : (W.setRow g cs).heap[k]? = W.heap[k]? := by
  unfold World.setRow
  simp only [Array.getElem?_modify]
  rw [if_neg (fun e => hk e.symm)]
theorem setRow_mod {g t : Nat} {cs cs' : Array Value} (h : W.heap[g]? = some (.cells cs t (0, 0))) : Mod W (W.setRow g cs') (fun k => k = g) [bx g t cs'] :=
  ⟨rfl, rfl, rfl, by simp [World.setRow], fun k _ hk => setRow_far W g cs' k hk, fun b hb => by obtain rfl := List.mem_singleton.1 hb; exact ⟨setRow_I h, fun k hk => .inl hk⟩, List.pairwise_singleton _ _⟩
theorem run_store_at {ty : TypeId} {u : Value} {g j t : Nat} {cur : Array Value} (hg : W.heap[g]? = some (.cells cur t (0, 0))) (hi : (P.info? ty).map (·.size) = some u.cells.size) (hl : j + u.cells.size ≤ cur.size) (h1 : u.cells.toList.all (·.oneCell') = true) :
    (storeVar ty ⟨g, j, none⟩ u).run P W = .ok () (W.setRow g (over cur j u.cells.toList)) := by
  have := run_storeCells_at P g j t u.cells.toList 0 cur W hg (by simpa using hl) (fun v hv => List.all_eq_true.1 h1 v hv)
  cases hq : P.info? ty with
  | none => simp [hq] at hi
  | some i =>
    have hs : u.cells.size = i.size := by simp [hq] at hi; omega
    simp only [Nat.add_zero] at this
    simp [storeVar, sizeOf, typeInfo, hq, hs, this, over]
theorem run_op_store {ty : TypeId} {x y : Operand} {u : Value} {ad : Addr} (ho : o.op = .store ty x y) (hx : a.eval x = .pointer (some ad)) (hy : a.eval y = u) {w1 : World} (hr : (storeVar ty ad u).run P W = .ok () w1) : (execOp a.eval o).run P W = .ok .skip w1 := by
  unfold execOp
  simp only [ho, hx, hy, Instr.storeAt, Instr.sureAddr, Sem.run_bind, Sem.run_pure, Result.andThen_ok, hr]
theorem stp_skip (hw : Region.wanted o (yielded ops a.tmps) = true) (hN : o.dst = none) (hrun : (execOp a.eval o).run P W = .ok .skip W1) (h : Kc a W1) : Stp P ops Q o a W Kc := by
  unfold Stp
  rw [if_pos hw]
  unfold Oper.wp
  rw [hrun]
  show Kc (a.put o.dst undef) W1
  rw [hN]
  exact h
theorem stp_set (hw : Region.wanted o (yielded ops a.tmps) = true) (hN : o.dst = none) {ty : TypeId} {x y : Operand} (ho : o.op = .store ty x y) (HS : Aside0 (Mod w W S L)) (i j : Nat) {g t : Nat} {cs cs' : Array Value} {u : Value}
    (hi : L[i]? = some (bx g t cs)) (hx : a.eval x = .pointer (some ⟨g, j, none⟩)) (hy : a.eval y = u) (hsz : (P.info? ty).map (·.size) = some u.cells.size) (hl : (decide (j + u.cells.size ≤ cs.size) && u.cells.toList.all (·.oneCell')) = true) (hc : over cs j u.cells.toList = cs')
    (h : ∀ w1, Aside0 (Mod w w1 S (L.set i (bx g t cs'))) → Kc a w1) : Stp P ops Q o a W Kc := by
  rw [Bool.and_eq_true, decide_eq_true_eq] at hl
  subst hc
  have hg := HS.out.at hi
  exact stp_skip hw hN (run_op_store ho hx hy (run_store_at hg hsz hl.1 hl.2)) (h _ ⟨HS.out.turn hi (setRow_mod hg) (fun k hk => .inl hk)⟩)
section
variable {α : Type}
theorem row_turn {d : Kd α} {hE : d.E = []} {e : Nat} {v v1 : Value} {xs ys : List α} (h : Mod w W S L) {i : Nat} (hi : L[i]? = some (rw' d hE e v xs)) (hg : W.grownBy W1 v.ownBlock) (hR : d.R e W1 0 (fun _ => True) v1 ys) (hat : v1.ownBlock = v.ownBlock ∨ ∃ b, v1.ownBlock = some b ∧ W.heap.size ≤ b) : Mod w W1 S (L.set i (rw' d hE e v1 ys)) := by
  have hk : ∀ k, v1.ownBlock = some k → v.ownBlock = some k ∨ W.heap.size ≤ k := fun k hk => by
    rcases hat with e1 | ⟨b, e1, hb⟩
    · exact .inl (by rw [← e1]; exact hk)
    · rw [e1] at hk; injection hk with hk; exact .inr (by omega)
  exact h.turn hi ⟨hg.os, hg.tape, hg.output, hg.size, fun k h1 h2 => hg.block k h1 (fun e1 => h2 e1.symm), fun b hb => by obtain rfl := List.mem_singleton.1 hb; exact ⟨hR, hk⟩, List.pairwise_singleton _ _⟩ hk
theorem stp_app (d : Kd α) (hE : d.E = []) (hw : Region.wanted o (yielded ops a.tmps) = true) (HS : Aside0 (Mod w W S L)) (i : Nat) {e : Nat} {v : Value} {xs : List α} (hi : L[i]? = some (rw' d hE e v xs)) (s x : Operand) (t e' : TypeId) (z : Value) (bytes : Nat)
    (ho : o.op = .call { callee := .builtin .append, args := #[s, x], argTypes := #[t, t] }) (ht : P.underlying t = some (.slice e)) (hinfo : (P.info? e).map (fun i => (i.zero, i.size, i.bytes)) = some (some z, d.sz, bytes)) (hz : (decide (z.cells.size = d.sz) && (decide (0 < d.sz) && decide (0 < bytes))) = true)
    (p : α) (cs : List Value) (hs : a.eval s = v) (hx : a.eval x = .slice (some ⟨W.heap.size, 0, none⟩) 1 1) (hp : ∀ W base ok, d.M W base ok p cs) (hl : (xs.length + 1) * bytes ≤ 140737488355328)
    (h : ∀ A c ys w1, Aside0 (ys = xs ++ [p]) → Aside0 (Mod w w1 S (L.set i (rw' d hE e (.slice A ys.length c) ys))) → Kc (a.put o.dst (.slice A ys.length c)) w1) : Stp P ops Q o a (W.alloc (.cells cs.toArray e)) Kc := by
  simp only [Bool.and_eq_true, decide_eq_true_eq] at hz
  refine Kd.R_append_step d (w0 := W) 0 hw s x t e z bytes ho ht hinfo hz.1 hz.2.1 hz.2.2 v xs p cs (fun _ => True) (fun _ => False) hs hx (hp _ _ _) (fun k hk => hk.elim) (fun _ _ => trivial) (HS.out.at hi) (Below.refl _ _) (Nat.zero_le _) hl ?_
  intro v1 w1 hR _ hg hat
  obtain ⟨A, c, rfl⟩ := Kd.R_slice hR
  exact h A c _ w1 ⟨rfl⟩ ⟨row_turn HS.out hi hg hR hat⟩
theorem stp_lit (d : Kd α) (hE : d.E = []) (e : Nat) (hw : Region.wanted o (yielded ops a.tmps) = true) (HS : Aside0 (Mod w W S L)) {xs : List α} {inner : List Value}
    (hrun : (execOp a.eval o).run P W = .ok (.value (.slice (some ⟨W.heap.size, 0, none⟩) xs.length xs.length)) (W.alloc (.cells inner.toArray e))) (hrep : ∀ W base ok, Reps (d.M W base ok) d.sz xs inner) (hm : xs.length ≤ 9223372036854775807)
    (h : ∀ A c w1, Aside0 (Mod w w1 S (rw' d hE e (.slice A xs.length c) xs :: L)) → Kc (a.put o.dst (.slice A xs.length c)) w1) : Stp P ops Q o a W Kc := by
  have hR : d.R e (W.alloc (.cells inner.toArray e)) 0 (fun _ => True) (.slice (some ⟨W.heap.size, 0, none⟩) xs.length xs.length) xs := by
    refine ⟨fun _ _ => trivial, inner, ?_, hrep _ _ _⟩
    have h2 := World.ownsRow_lit (base := 0) (e := e) (size := d.sz) W inner.toArray xs.length (Nat.zero_le _) (by simpa [maxLen] using hm) (by simpa using (hrep W 0 (fun _ => True)).1)
    simpa using h2
  unfold Stp
  rw [if_pos hw]
  unfold Oper.wp
  rw [hrun]
  exact h _ _ _ ⟨HS.out.new (A := [rw' d hE e _ xs]) (Sep.one (below_alloc (Below.refl _ _) _) hR (fun k hk => by
    have hk' : (Value.slice (some ⟨W.heap.size, 0, none⟩) xs.length xs.length).ownBlock = some k := hk
    simp only [Value.ownBlock, Option.some.injEq] at hk'
    omega))⟩
end
end
end Go.Proofs.YtbijcpnimkcfcaaDoor.H
namespace Go.Proofs.YtbijcpnimkcfcaaDoor.H
open Go.RowKit Go.Proofs.YtbijcpnimkcfcaaDoorW.PrintWords Go.Proofs.YtbijcpnimkcfcaaDoorW.PrintLast Go.Proofs.YtbijcpnimkcfcaaDoorW.PrintMore Go.Proofs.YtbijcpnimkcfcaaDoor.M
set_option linter.unusedVariables false
set_option linter.unusedSimpArgs false
inductive Plan where
  | done
  | p (i : Nat) (r : Plan)
  | t (i : Nat) (r : Plan)
  | e (i : Nat) (r : Plan)
  | d (i : Nat) (r : Plan)
  | two (i j : Nat) (r s : Plan)
  | three (i j k : Nat) (r s u : Plan)
def Plan.depth : Plan → Nat
  | .done => 0
  | .p _ r => r.depth + 1
  | .t _ r => r.depth + 1
  | .e _ r => r.depth + 1
  | .d _ r => r.depth + 1
  | .two _ _ r s => max r.depth s.depth + 1
  | .three _ _ _ r s u => max r.depth (max s.depth u.depth) + 1
section
variable (P : Program) (md : Region.Mode) (ops : Array Oper) (Q : Exit → Act → World → Prop) (S : World → Prop) (ds : List Nat)
def Plan.fits : Plan → Array Bool → Bool
  | .done, l => Region.ready md ops l == []
  | .p i r, l => anyB md ops l (l.setIfInBounds i true) i && r.fits (l.setIfInBounds i true)
  | .t i r, l => takeB md ops ds l (l.setIfInBounds i true) i && r.fits (l.setIfInBounds i true)
  | .e i r, l => readyB md ops l (l.setIfInBounds i true) i && (!ds.contains i && r.fits (l.setIfInBounds i true))
  | .d i r, l => readyB md ops l (l.setIfInBounds i true) i && (ds.contains i && r.fits (l.setIfInBounds i true))
  | .two i j r s, l => (Region.ready md ops l == [i, j] && l.setIfInBounds i true == l.setIfInBounds i true && l.setIfInBounds j true == l.setIfInBounds j true) && ((!ds.contains i && !ds.contains j) && (r.fits (l.setIfInBounds i true) && s.fits (l.setIfInBounds j true)))
  | .three i j k r s u, l => (Region.ready md ops l == [i, j, k] && l.setIfInBounds i true == l.setIfInBounds i true && l.setIfInBounds j true == l.setIfInBounds j true && l.setIfInBounds k true == l.setIfInBounds k true) && ((!ds.contains i && (!ds.contains j && !ds.contains k)) && (r.fits (l.setIfInBounds i true) && (s.fits (l.setIfInBounds j true) && u.fits (l.setIfInBounds k true))))
def OpAt (i : Nat) (K : Oper → Prop) : Prop := ∀ o, ops[i]? = some o → K o
def RunE (i : Nat) (a : Act) (w : World) (r : Act → World → Prop) : Prop := OpAt ops i fun o => ∀ K : Act → World → Prop, Shut (∀ a' w', S w' → (S w' → r a' w') → K a' w') → Stp P ops Q o a w K
def RunD (i : Nat) (a : Act) (w : World) (r : Act → World → Prop) : Prop := OpAt ops i fun o => ∀ K : Act → World → Prop, Shut (∀ a' w', r a' w' → K a' w') → Stp P ops Q o a w K
def Plan.run : Plan → Act → World → Prop
  | .done, a, w => Q .normal a w
  | .p i r, a, w => OpAt ops i fun o => ∃ v, Yields P ops o v a ∧ Plan.run r (a.put o.dst v) w
  | .t i r, a, w => OpAt ops i fun o => ∃ v, YieldsIf P ops S o v a ∧ S w ∧ Plan.run r (a.put o.dst v) w
  | .e i r, a, w => RunE P ops Q S i a w (Plan.run r)
  | .d i r, a, w => RunD P ops Q i a w (Plan.run r)
  | .two i j r s, a, w => RunE P ops Q S i a w (Plan.run r) ∧ RunE P ops Q S j a w (Plan.run s)
  | .three i j k r s u, a, w => RunE P ops Q S i a w (Plan.run r) ∧ RunE P ops Q S j a w (Plan.run s) ∧ RunE P ops Q S k a w (Plan.run u)
end
section
variable {P : Program} {md : Region.Mode} {ops : Array Oper} {Q : Exit → Act → World → Prop} {S : World → Prop} {ds : List Nat}
theorem ready_ops {i : Nat} {l : Array Bool} (h : i ∈ Region.ready md ops l) : ∃ o, ops[i]? = some o := by
  obtain ⟨_, o, ho, _⟩ := mem_ready.1 h
  exact ⟨o, ho⟩
theorem ready_any {i : Nat} {l l' : Array Bool} (h : anyB md ops l l' i = true) : ∃ o, ops[i]? = some o := by
  simp only [anyB, Bool.and_eq_true] at h
  exact ready_ops (by simpa using h.1.2)
theorem ready_take {i : Nat} {l l' : Array Bool} (h : takeB md ops ds l l' i = true) : ∃ o, ops[i]? = some o := by
  simp only [takeB, Bool.and_eq_true] at h
  exact ready_ops (by simpa using h.1.1.1.2)
theorem ready_one {i : Nat} {l l' : Array Bool} (h : readyB md ops l l' i = true) : ∃ o, ops[i]? = some o := by
  simp only [readyB, Bool.and_eq_true, beq_iff_eq] at h
  exact ready_ops (by rw [h.1]; exact List.mem_singleton.2 rfl)
theorem Plan.sound (hQ : ∀ c (a : Act) (d : Option Tmp) (v : Value) (w : World), Q (.panic c) (a.put d v) w → Q (.panic c) a w) (p : Plan) :
    ∀ (l : Array Bool) (fuel : Nat) (a : Act) (w : World), p.fits md ops ds l = true → p.depth ≤ fuel → p.run P ops Q S a w → wpAnyLast P md ops Q S ds fuel l a w := by
  have toE : ∀ {r : Plan} {i : Nat} {o : Oper} {l' : Array Bool} {f : Nat} {a : Act} {w : World} (ih : ∀ (l : Array Bool) (fuel : Nat) (a : Act) (w : World), r.fits md ops ds l = true → r.depth ≤ fuel → r.run P ops Q S a w → wpAnyLast P md ops Q S ds fuel l a w)
      (hf : r.fits md ops ds l' = true) (hd : r.depth ≤ f) (ho : ops[i]? = some o) (hr : RunE P ops Q S i a w (r.run P ops Q S)) (K : Act → World → Prop) (hK : Shut (∀ a' w', S w' → (S w' → wpAnyLast P md ops Q S ds f l' a' w') → K a' w')),
      if Region.wanted o (yielded ops a.tmps) = true then Oper.wp P o a w K Q else K (a.put o.dst undef) w := fun ih hf hd ho hr K hK => hr _ ho K (fun a' w' hS h => hK.out a' w' hS (fun hs => ih _ _ _ _ hf hd (h hs)))
  induction p with
  | done => exact fun l fuel a w hf _ hr => done_ hf hr
  | p i r ih =>
    intro l fuel a w hf hd hr
    simp only [Plan.fits, Bool.and_eq_true] at hf
    obtain ⟨f, rfl⟩ : ∃ f, fuel = f + 1 := ⟨fuel - 1, by simp only [Plan.depth] at hd; omega⟩
    obtain ⟨o, ho⟩ := ready_any hf.1
    obtain ⟨v, hy, hrun⟩ := hr o ho
    exact pure_ _ ho rfl hf.1 (fun c a w => hQ c a o.dst v w) hy rfl (ih _ _ _ _ hf.2 (by simp only [Plan.depth] at hd; omega) hrun)
  | t i r ih =>
    intro l fuel a w hf hd hr
    simp only [Plan.fits, Bool.and_eq_true] at hf
    obtain ⟨f, rfl⟩ : ∃ f, fuel = f + 1 := ⟨fuel - 1, by simp only [Plan.depth] at hd; omega⟩
    obtain ⟨o, ho⟩ := ready_take hf.1
    obtain ⟨v, hy, hS, hrun⟩ := hr o ho
    exact take_ _ ho rfl hf.1 (fun c a w => hQ c a o.dst v w) hy hS rfl (ih _ _ _ _ hf.2 (by simp only [Plan.depth] at hd; omega) hrun)
  | e i r ih =>
    intro l fuel a w hf hd hr
    simp only [Plan.fits, Bool.and_eq_true, Bool.not_eq_true', List.contains_eq_mem, decide_eq_false_iff_not] at hf
    obtain ⟨f, rfl⟩ : ∃ f, fuel = f + 1 := ⟨fuel - 1, by simp only [Plan.depth] at hd; omega⟩
    obtain ⟨o, ho⟩ := ready_one hf.1
    exact one_ _ ho rfl hf.1 hf.2.1 (toE ih hf.2.2 (by simp only [Plan.depth] at hd; omega) ho hr)
  | d i r ih =>
    intro l fuel a w hf hd hr
    simp only [Plan.fits, Bool.and_eq_true, List.contains_eq_mem, decide_eq_true_eq] at hf
    obtain ⟨f, rfl⟩ : ∃ f, fuel = f + 1 := ⟨fuel - 1, by simp only [Plan.depth] at hd; omega⟩
    obtain ⟨o, ho⟩ := ready_one hf.1
    exact last_ _ ho rfl hf.1 hf.2.1 (fun K hK => hr _ ho K (fun a' w' h => hK.out a' w' (ih _ _ _ _ hf.2.2 (by simp only [Plan.depth] at hd; omega) h)))
  | two i j r s ihr ihs =>
    intro l fuel a w hf hd hr
    simp only [Plan.fits] at hf
    rw [Bool.and_eq_true] at hf
    obtain ⟨h0, hf⟩ := hf
    simp only [Bool.and_eq_true, Bool.not_eq_true', List.contains_eq_mem, decide_eq_false_iff_not] at hf
    simp only [Plan.depth] at hd
    obtain ⟨f, rfl⟩ : ∃ f, fuel = f + 1 := ⟨fuel - 1, by omega⟩
    have hrd : Region.ready md ops l = [i, j] := by
      simp only [Bool.and_eq_true, beq_iff_eq] at h0
      exact h0.1.1
    obtain ⟨o, ho⟩ := ready_ops (i := i) (l := l) (md := md) (ops := ops) (by rw [hrd]; simp)
    obtain ⟨o', ho'⟩ := ready_ops (i := j) (l := l) (md := md) (ops := ops) (by rw [hrd]; simp)
    exact two_ _ _ ho ho' rfl rfl h0 hf.1.1 hf.1.2 (toE ihr hf.2.1 (by omega) ho hr.1) (toE ihs hf.2.2 (by omega) ho' hr.2)
  | three i j k r s u ihr ihs ihu =>
    intro l fuel a w hf hd hr
    simp only [Plan.fits] at hf
    rw [Bool.and_eq_true] at hf
    obtain ⟨h0, hf⟩ := hf
    simp only [Bool.and_eq_true, Bool.not_eq_true', List.contains_eq_mem, decide_eq_false_iff_not] at hf
    simp only [Plan.depth] at hd
    obtain ⟨f, rfl⟩ : ∃ f, fuel = f + 1 := ⟨fuel - 1, by omega⟩
    have hrd : Region.ready md ops l = [i, j, k] := by
      simp only [Bool.and_eq_true, beq_iff_eq] at h0
      exact h0.1.1.1
    obtain ⟨o, ho⟩ := ready_ops (i := i) (l := l) (md := md) (ops := ops) (by rw [hrd]; simp)
    obtain ⟨o', ho'⟩ := ready_ops (i := j) (l := l) (md := md) (ops := ops) (by rw [hrd]; simp)
    obtain ⟨o'', ho''⟩ := ready_ops (i := k) (l := l) (md := md) (ops := ops) (by rw [hrd]; simp)
    exact three_ _ _ _ ho ho' ho'' rfl rfl rfl h0 hf.1.1 hf.1.2.1 hf.1.2.2 (toE ihr hf.2.1 (by omega) ho hr.1) (toE ihs hf.2.2.1 (by omega) ho' hr.2.1) (toE ihu hf.2.2.2 (by omega) ho'' hr.2.2)
theorem plan_start {id : Nat} {a : Act} {w : World} (p : Plan) (S : World → Prop) (ds : List Nat) (hm : P.follows .mixedOrders = true) (hf : (Nat.ble p.depth ops.size && p.fits .any ops ds (Array.replicate ops.size false)) = true)
    (hQ : ∀ c (a : Act) (d : Option Tmp) (v : Value) (w : World), Q (.panic c) (a.put d v) w → Q (.panic c) a w) (hS : S w.drew) (h : S w.drew → p.run P ops Q S a w.drew) : (Code.region id ops true).wp P Q a w := by
  rw [Bool.and_eq_true] at hf
  exact wp_region_last_drew hm hS (fun hs => Plan.sound hQ p _ _ _ _ hf.2 (Nat.le_of_ble_eq_true hf.1) (h hs))
theorem gate_p {i : Nat} {r : Plan} {a : Act} {w : World} (h : (Plan.p i r).run P ops Q S a w) : (Plan.p i r).run P ops Q S a w := h
theorem gate_t {i : Nat} {r : Plan} {a : Act} {w : World} (h : (Plan.t i r).run P ops Q S a w) : (Plan.t i r).run P ops Q S a w := h
theorem run_p {i : Nat} {r : Plan} {N : Option Tmp} {o : Oper} {v : Value} {a : Act} {w : World} (ho : ops.toList[i]? = some o) (hN : o.dst = N) (hy : Yields P ops o v a) {a' : Act} (ha : a.put N v = a') (h : r.run P ops Q S a' w) : (Plan.p i r).run P ops Q S a w := by
  intro o' ho'
  rw [Array.getElem?_toList] at ho
  obtain rfl := Option.some.inj (ho.symm.trans ho')
  subst hN ha
  exact ⟨v, hy, h⟩
theorem run_t {i : Nat} {r : Plan} {N : Option Tmp} {o : Oper} {v : Value} {a : Act} {w : World} (ho : ops.toList[i]? = some o) (hN : o.dst = N) (hS : S w) (hy : YieldsIf P ops S o v a) {a' : Act} (ha : a.put N v = a') (h : r.run P ops Q S a' w) : (Plan.t i r).run P ops Q S a w := by
  intro o' ho'
  rw [Array.getElem?_toList] at ho
  obtain rfl := Option.some.inj (ho.symm.trans ho')
  subst hN ha
  exact ⟨v, hy, hS, h⟩
theorem run_e {i : Nat} {r : Plan} {o : Oper} {a : Act} {w : World} (ho : ops.toList[i]? = some o) (h : ∀ K : Act → World → Prop, Shut (∀ a' w', S w' → (S w' → r.run P ops Q S a' w') → K a' w') → Stp P ops Q o a w K) : (Plan.e i r).run P ops Q S a w := by
  intro o' ho'
  rw [Array.getElem?_toList] at ho
  obtain rfl := Option.some.inj (ho.symm.trans ho')
  exact h
theorem run_d {i : Nat} {r : Plan} {o : Oper} {a : Act} {w : World} (ho : ops.toList[i]? = some o) (h : ∀ K : Act → World → Prop, Shut (∀ a' w', r.run P ops Q S a' w' → K a' w') → Stp P ops Q o a w K) : (Plan.d i r).run P ops Q S a w := by
  intro o' ho'
  rw [Array.getElem?_toList] at ho
  obtain rfl := Option.some.inj (ho.symm.trans ho')
  exact h
theorem run_done {a : Act} {w : World} (h : Q .normal a w) : Plan.done.run P ops Q S a w := h
theorem goE {r : Act → World → Prop} {K : Act → World → Prop} (hK : Shut (∀ a' w', S w' → (S w' → r a' w') → K a' w')) {a : Act} {w : World} (hS : S w) {a' : Act} (ha : a = a') (h : S w → r a' w) : K a w := by
  subst ha
  exact hK.out _ _ hS h
theorem goD {r : Act → World → Prop} {K : Act → World → Prop} (hK : Shut (∀ a' w', r a' w' → K a' w')) {a : Act} {w : World} {a' : Act} (ha : a = a') (h : r a' w) : K a w := by
  subst ha
  exact hK.out _ _ h
end
end Go.Proofs.YtbijcpnimkcfcaaDoor.H
namespace Go.Proofs.YtbijcpnimkcfcaaDoor.H
open Go.RowKit Go.Proofs.YtbijcpnimkcfcaaDoorW.PrintWords Go.Proofs.YtbijcpnimkcfcaaDoorW.PrintLast Go.Proofs.YtbijcpnimkcfcaaDoorW.PrintMore Go.Proofs.YtbijcpnimkcfcaaDoor.M
set_option linter.unusedVariables false
set_option linter.unusedSimpArgs false
section
variable {P : Program} {md : Region.Mode} {ops : Array Oper} {Q : Exit → Act → World → Prop} {S : World → Prop} {ds : List Nat}
theorem rp {i : Nat} {r : Plan} {N : Option Tmp} {o : Oper} {v : Value} {a a' : Act} {w : World} (ho : ops.toList[i]? = some o) (hN : o.dst = N) (h : r.run P ops Q S a' w) (hw : Region.wanted o (yielded ops a.tmps) = true := by rfl)
    (hy : ∀ w', (execOp a.eval o).run P w' = .ok (.value v) w' := by intro w'; first | (go_simp; with_reducible rfl) | (go_simp; done))
    (ha : a.put N v = a' := by first | (simp only [Act.put, List.setIfInBounds_toArray, List.set_cons_zero, List.set_cons_succ, i64_w, i32_w]; rfl) | simp only [Act.put, List.setIfInBounds_toArray, List.set_cons_zero, List.set_cons_succ, i64_w, i32_w]) : (Plan.p i r).run P ops Q S a w := run_p ho hN (Or.inl ⟨hw, hy⟩) ha h
theorem rt {i : Nat} {r : Plan} {N : Option Tmp} {o : Oper} {v : Value} {a a' : Act} {w : World} (ho : ops.toList[i]? = some o) (hN : o.dst = N) (hS : S w) (h : r.run P ops Q S a' w) (hw : Region.wanted o (yielded ops a.tmps) = true := by rfl)
    (hy : ∀ w', S w' → (execOp a.eval o).run P w' = .ok (.value v) w' := by intro w' hS_; first | (go_simp; with_reducible rfl) | (go_simp; done))
    (ha : a.put N v = a' := by first | (simp only [Act.put, List.setIfInBounds_toArray, List.set_cons_zero, List.set_cons_succ, i64_w, i32_w]; rfl) | simp only [Act.put, List.setIfInBounds_toArray, List.set_cons_zero, List.set_cons_succ, i64_w, i32_w]) : (Plan.t i r).run P ops Q S a w := run_t ho hN hS (Or.inl ⟨hw, hy⟩) ha h
theorem ge {r : Act → World → Prop} {K : Act → World → Prop} (hK : Shut (∀ a' w', S w' → (S w' → r a' w') → K a' w')) {a a' : Act} {w : World} (hS : S w) (h : S w → r a' w)
    (ha : a = a' := by first | (simp only [Act.put, List.setIfInBounds_toArray, List.set_cons_zero, List.set_cons_succ, i64_w, i32_w]; rfl) | simp only [Act.put, List.setIfInBounds_toArray, List.set_cons_zero, List.set_cons_succ, i64_w, i32_w]) : K a w := goE hK hS ha h
theorem gd {r : Act → World → Prop} {K : Act → World → Prop} (hK : Shut (∀ a' w', r a' w' → K a' w')) {a a' : Act} {w : World} (h : r a' w)
    (ha : a = a' := by first | (simp only [Act.put, List.setIfInBounds_toArray, List.set_cons_zero, List.set_cons_succ, i64_w, i32_w]; rfl) | simp only [Act.put, List.setIfInBounds_toArray, List.set_cons_zero, List.set_cons_succ, i64_w, i32_w]) : K a w := goD hK ha h
theorem ps {id : Nat} {a : Act} {w : World} (p : Plan) (S : World → Prop) (ds : List Nat) (hS : S w.drew) (h : S w.drew → p.run P ops Q S a w.drew) (hm : P.follows .mixedOrders = true := by kernel_rfl) (hf : (Nat.ble p.depth ops.size && p.fits .any ops ds (Array.replicate ops.size false)) = true := by kernel_rfl)
    (hQ : ∀ c (a : Act) (d : Option Tmp) (v : Value) (w : World), Q (.panic c) (a.put d v) w → Q (.panic c) a w := by intro c_ a_ d_ v_ w_ h_; cases d_ <;> exact h_) : (Code.region id ops true).wp P Q a w := plan_start p S ds hm hf hQ hS h
theorem gc {oi : Oper} {N : Option Tmp} {a : Act} {w : World} {K : Act → World → Prop} {f : FuncId} {fn : Func} {xs : Array Operand} {ts : Array TypeId} {args : Array Value} {R : Ending → World → Prop} (hf : P.funcs[f]? = some fn) (con : Calls P f args w R)
    (hN : oi.dst = N) (hop : oi.op = .call { callee := .value (.func f), args := xs, argTypes := ts }) (h : ∀ e w', R e w' → ∃ v, e = .returned v ∧ K (a.put N v) w')
    (hargs : xs.map a.eval = args := by simp only [List.map_toArray, List.map_cons, List.map_nil]; rfl) (hname : (fn.name == "runtime.NumGoroutine") = false := by kernel_rfl) (hb : fn.body.isSome = true := by rfl)
    (hw : Region.wanted oi (yielded ops a.tmps) = true := by rfl) : Stp P ops Q oi a w K := by
  subst hN
  exact goes_ hf hname hb args hw rfl hop hargs (con.mono h)
end
section
variable {P : Program} {ops : Array Oper} {o : Oper} {a : Act} {Q : Exit → Act → World → Prop} {Kc : Act → World → Prop} {rest : List Oper} {w W W1 : World} {S : Nat → Prop} {L : List As}
theorem sB (HS : Aside0 (Mod w W S L)) (hb : Below W.heap.size W W1) : Aside0 (Mod w W1 S L) := ⟨HS.out.call hb⟩
theorem sD (HS : Aside0 (Mod w W S L)) : Aside0 (Mod w W.drew S L) := ⟨HS.out.drew⟩
theorem sN1 {x : As} (HS : Aside0 (Mod w W S L)) (hs : Sep W W1 [x]) : Aside0 (Mod w W1 S (x :: L)) := ⟨HS.out.new hs⟩
theorem bxL (t : TypeId) (cs : Array Value) (HS : Aside0 (Mod w W S L)) (h : ∀ g w1, w.heap.size ≤ g → Aside0 (Mod w w1 S (bx g t cs :: L)) → wpList P ops Q rest (a.put o.dst (.pointer (some ⟨g, 0, none⟩))) w1)
    (hrun : (execOp a.eval o).run P W = .ok (.value (.pointer (some ⟨W.heap.size, 0, none⟩))) (W.alloc (.cells cs t (0, 0))) := by first | (go_simp; done) | (go_simp; rfl)) (hw : Region.wanted o (yielded ops a.tmps) = true := by rfl) : wpList P ops Q (o :: rest) a W :=
  wpList_stp fun K hK => stp_box hw HS hrun fun g w1 hg hs => hK _ _ (h g w1 hg hs)
theorem stL {ty : TypeId} {x y : Operand} {g t : Nat} {cs : Array Value} {u : Value} {L' : List As} (HS : Aside0 (Mod w W S L)) (i j : Nat) (cs' : Array Value) (hN : o.dst = none) (ho : o.op = .store ty x y) (hi : L[i]? = some (bx g t cs)) (hx : a.eval x = .pointer (some ⟨g, j, none⟩)) (hy : a.eval y = u)
    (h : ∀ w1, Aside0 (Mod w w1 S L') → wpList P ops Q rest a w1) (hL : L.set i (bx g t cs') = L' := by simp only [List.set_cons_zero, List.set_cons_succ]; rfl) (hsz : (P.info? ty).map (·.size) = some u.cells.size := by kernel_rfl) (hl : (decide (j + u.cells.size ≤ cs.size) && u.cells.toList.all (·.oneCell')) = true := by rfl)
    (hc : over cs j u.cells.toList = cs' := by rfl) (hw : Region.wanted o (yielded ops a.tmps) = true := by rfl) : wpList P ops Q (o :: rest) a W := by
  subst hL
  exact wpList_stp fun K hK => stp_set hw hN ho HS i j hi hx hy hsz hl hc fun w1 hs => hK _ _ (h w1 hs)
end
end Go.Proofs.YtbijcpnimkcfcaaDoor.H
namespace Go.Proofs.YtbijcpnimkcfcaaDoor.H
open Go.RowKit Go.Proofs.YtbijcpnimkcfcaaDoorW.PrintWords Go.Proofs.YtbijcpnimkcfcaaDoorW.PrintLast Go.Proofs.YtbijcpnimkcfcaaDoorW.PrintMore Go.Proofs.YtbijcpnimkcfcaaDoor.M
set_option linter.unusedVariables false
set_option linter.unusedSimpArgs false
theorem infoString : (Tryd.prog.info? 9).map (fun i => (i.zero, i.size, i.bytes)) = some (some (.string ⟨#[]⟩), 1, 16) := by kernel_rfl
theorem str_eq (a b : ByteArray) : (a.toList == b.toList) = decide (a = b) := by
  rw [ByteArray.toList_eq, ByteArray.toList_eq]
  by_cases h : a = b
  · subst h; simp
  · rw [decide_eq_false h, beq_eq_false_iff_ne]
    exact fun e => h (bl_ext e)
theorem c2 {W : World} {b o : Nat} {v : Value} (h : W.cell? ⟨b, o + 2, none⟩ = some v) : W.cell? ⟨b, o + 1 + 1, none⟩ = some v := h
end Go.Proofs.YtbijcpnimkcfcaaDoor.H



/- What the reference's functions on fractions return: proved by walking their code. Conditions: the bounds that stand in each statement. -/
namespace Go.Proofs.YtbijcpnimkcfcaaDoor.H
open Go.RowKit Go.Proofs.YtbijcpnimkcfcaaDoorW.PrintWords Go.Proofs.YtbijcpnimkcfcaaDoorW.PrintLast Go.Proofs.YtbijcpnimkcfcaaDoorW.PrintMore Go.Proofs.YtbijcpnimkcfcaaDoor.M
attribute [local go_sem] max2_int min2_int max_two min_two max_three min_three max_four min_four
set_option linter.unusedVariables false
set_option linter.unusedSimpArgs false

theorem specIn (a b c : Int) (w : World) : Calls Tryd.prog 76 #[.int .i64 a, .int .i64 b, .int .i64 c] w fun e w' => e = .returned (.bool (inR a b c)) ∧ ∃ n, w' = w.drewN n := by
  by_cases h : b ≤ a
  · go_enter Tryd.func76, Tryd.ntmps76
    go_wp2
    go_ret
    exact ⟨ret_bool (by simp [inR, h]), 0, rfl⟩
  · go_enter Tryd.func76, Tryd.ntmps76
    go_wp2
    go_ret
    exact ⟨ret_bool (by simp [inR]; omega), 0, rfl⟩

theorem specGcd (a b : Int) (w : World) (ha : -9223372036854775807 ≤ a) (ha' : a ≤ 9223372036854775807) (hb : -9223372036854775807 ≤ b) (hb' : b ≤ 9223372036854775807) :
    Calls Tryd.prog 79 #[.int .i64 a, .int .i64 b] w fun e w' => e = .returned (.int .i64 (Int.gcd a b)) ∧ w = w' := by
  go_enter Tryd.func79, Tryd.ntmps79
  go_wp2
  go_loop [0, 1] (fun x y => ∃ p q : Int, x = .int .i64 p ∧ y = .int .i64 q ∧ Hid (Int.gcd p q = Int.gcd a b) ∧ -9223372036854775807 ≤ p ∧ p ≤ 9223372036854775807 ∧ -9223372036854775807 ≤ q ∧ q ≤ 9223372036854775807) (fun _ y => (intOf y).natAbs)
  case atStart => exact ⟨a, b, rfl, rfl, rfl, ha, ha', hb, hb'⟩
  case round =>
    clear ha ha' hb hb'
    obtain ⟨p, q, rfl, rfl, hg, hp, hp', hq, hq'⟩ := hrel
    by_cases h : q = 0
    · have h1 : (q == 0) = true := by simpa using h
      have h2 : (q != 0) = false := by simpa using h
      have hfin : (if p < -p then -p else p) = (Int.gcd a b : Int) := by
        rw [← hg.out, h, Int.gcd_zero_right]; split <;> omega
      clear hg h
      go_wp2
      go_ret
      exact ⟨rfl, rfl⟩
    · have h1 : (q == 0) = false := by simpa using h
      have h2 : (q != 0) = true := by simpa using h
      have hm := tmod_lt (a := p) h
      have hm' := tmod_le p q
      have hg' : Hid (Int.gcd q (p.tmod q) = Int.gcd a b) := by rw [Hid, gcd_tmod]; exact hg
      go_wp2
      go_round
      case rel => exact ⟨q, p.tmod q, rfl, rfl, hg', hq, hq', by omega, by omega⟩
      case measure => exact hm

theorem specIsFrac (a b : Int) (w : World) : Calls Tryd.prog 40 #[.agg #[.int .i64 a, .int .i64 b]] w fun e w' => e = .returned (.bool (isFr a b)) ∧ Below w.heap.size w w' := by
  cases h1 : inR b 1 1000000000 with
  | false =>
    have hf := Lib.hid (show isFr a b = false by simp [isFr, h1])
    go_enter Tryd.func40, Tryd.ntmps40
    go_wp2_with (first | (go_at_call 76; refine (specIn _ _ _ _).mono ?_; rintro e w1 ⟨rfl, n, rfl⟩))
    go_ret
    exact ⟨ret_bool hf.out.symm, pw_below_drewN ((Below.refl _ _).alloc (Nat.le_refl _) _) _⟩
  | true =>
    cases h2 : inR a (-1000000000) 1000000000 with
    | false =>
      have hf := Lib.hid (show isFr a b = false by simp [isFr, h1, h2])
      go_enter Tryd.func40, Tryd.ntmps40
      go_wp2_with (first | (go_at_call 76; refine (specIn _ _ _ _).mono ?_; rintro e w1 ⟨rfl, n, rfl⟩))
      go_ret
      exact ⟨ret_bool hf.out.symm, pw_below_drewN ((Below.refl _ _).alloc (Nat.le_refl _) _) _⟩
    | true =>
      have hf := Lib.hid (show isFr a b = ((Int.gcd a b : Int) == 1) by simp [isFr, h1, h2]; rfl)
      obtain ⟨k11, k12⟩ := (inR_iff _ _ _).1 h1
      obtain ⟨k21, k22⟩ := (inR_iff _ _ _).1 h2
      go_enter Tryd.func40, Tryd.ntmps40
      go_wp2_with (first | (go_at_call 76; refine (specIn _ _ _ _).mono ?_; rintro e w1 ⟨rfl, n, rfl⟩) | (go_at_call 79; refine (specGcd _ _ _ (by omega) (by omega) (by omega) (by omega)).mono ?_; rintro e w1 ⟨rfl, rfl⟩))
      go_ret
      exact ⟨ret_bool hf.out.symm, pw_below_drewN ((Below.refl _ _).alloc (Nat.le_refl _) _) _⟩

end Go.Proofs.YtbijcpnimkcfcaaDoor.H

/- What the program's functions on fractions return: proved by walking their code. Conditions: the bounds that stand in each statement. -/
namespace Go.Proofs.YtbijcpnimkcfcaaDoor.H
open Go.RowKit Go.Proofs.YtbijcpnimkcfcaaDoorW.PrintWords Go.Proofs.YtbijcpnimkcfcaaDoorW.PrintLast Go.Proofs.YtbijcpnimkcfcaaDoorW.PrintMore Go.Proofs.YtbijcpnimkcfcaaDoor.M
attribute [local go_sem] max2_int min2_int max_two min_two max_three min_three max_four min_four
set_option linter.unusedVariables false
set_option linter.unusedSimpArgs false

theorem implIn (a b c : Int) (w : World) : Calls Tryd.prog 66 #[.int .i64 a, .int .i64 b, .int .i64 c] w fun e w' => e = .returned (.bool (inR a b c)) ∧ ∃ n, w' = w.drewN n := by
  by_cases h : b ≤ a
  · go_enter Tryd.func66, Tryd.ntmps66
    go_wp2
    go_ret
    exact ⟨ret_bool (by simp [inR, h]), 0, rfl⟩
  · go_enter Tryd.func66, Tryd.ntmps66
    go_wp2
    go_ret
    exact ⟨ret_bool (by simp [inR]; omega), 0, rfl⟩

theorem implUp (a b : Int) (w : World) (hb : -9223372036854775807 ≤ b) (hb' : b ≤ 9223372036854775807) : Calls Tryd.prog 67 #[.int .i64 a, .int .i64 b] w fun e w' => e = .returned (.bool (inR a (-b) b)) ∧ ∃ n, w' = w.drewN n := by
  go_enter Tryd.func67, Tryd.ntmps67
  go_wp2_with (first | (go_at_call 66; refine (implIn _ _ _ _).mono ?_; rintro e w1 ⟨rfl, n, rfl⟩))
  go_ret
  exact ⟨rfl, n, rfl⟩

theorem implSize (a : Int) (w : World) (ha : -9223372036854775807 ≤ a) (ha' : a ≤ 9223372036854775807) : Calls Tryd.prog 99 #[.int .i64 a] w fun e w' => e = .returned (.int .i64 (a.natAbs : Int)) ∧ w = w' := by
  go_enter Tryd.func99, Tryd.ntmps99
  go_wp2
  all_goals
    go_ret
    exact ⟨ret_int (by omega), rfl⟩

theorem implGcd (a b : Int) (w : World) (ha : -9223372036854775807 ≤ a) (ha' : a ≤ 9223372036854775807) (hb : -9223372036854775807 ≤ b) (hb' : b ≤ 9223372036854775807) :
    Calls Tryd.prog 68 #[.int .i64 a, .int .i64 b] w fun e w' => e = .returned (.int .i64 (Int.gcd a b)) ∧ ∃ n, w' = w.drewN n := by
  go_enter Tryd.func68, Tryd.ntmps68
  go_wp2_with (first | (go_at_call 99; refine (implSize _ _ (by assumption) (by assumption)).mono ?_; rintro e w1 ⟨rfl, rfl⟩))
  go_loopw [0, 1] (fun x y w' => ∃ p q n : Nat, x = .int .i64 (p : Int) ∧ y = .int .i64 (q : Int) ∧ Hid (Nat.gcd p q = Int.gcd a b) ∧ p ≤ 9223372036854775807 ∧ q ≤ 9223372036854775807 ∧ Hid (w' = w.drewN n)) (fun _ y _ => (intOf y).natAbs)
  case atStart => exact ⟨a.natAbs, b.natAbs, 0, rfl, rfl, rfl, by omega, by omega, rfl⟩
  case round =>
    clear ha ha' hb hb'
    obtain ⟨p, q, n, rfl, rfl, hg, hp, hq, hw⟩ := hrel
    by_cases h : q = 0
    · have h1 : ((q : Int) == 0) = true := by simpa using h
      have h2 : ((q : Int) != 0) = false := by simpa using h
      have hfin := Lib.hid (show (p : Int) = (Int.gcd a b : Int) by rw [← hg.out, h, Nat.gcd_zero_right])
      clear hg h
      go_wp2
      go_ret
      exact ⟨ret_int hfin.out, n, hw.out⟩
    · have h1 : ((q : Int) == 0) = false := by simpa using h
      have h2 : ((q : Int) != 0) = true := by simpa using h
      have h3 : ¬ ((q : Int) = 0) := by simpa using h
      have hm : p % q < q := Nat.mod_lt _ (by omega)
      have hg' : Hid (Nat.gcd q (p % q) = Int.gcd a b) := by rw [Hid, Nat.gcd_comm, ← Nat.gcd_rec, Nat.gcd_comm]; exact hg.out
      go_wp2
      go_region
      go_roundw
      case rel => (repeat apply Exists.intro); exact ⟨⟨q, p % q, n + 1, rfl, by go_num, hg', hq, by omega, by rw [Hid, hw.out]; rfl⟩, rfl⟩
      case measure => simp [intOf]; omega

theorem implIsFraction (a b : Int) (w : World) : Calls Tryd.prog 27 #[.agg #[.int .i64 a, .int .i64 b]] w fun e w' => e = .returned (.bool (isFr a b)) ∧ Below w.heap.size w w' := by
  cases h1 : inR b 1 1000000000 with
  | false =>
    have hf := Lib.hid (show isFr a b = false by simp [isFr, h1])
    go_enter Tryd.func27, Tryd.ntmps27
    go_wp2_with (first | (go_at_call 66; refine (implIn _ _ _ _).mono ?_; rintro e w1 ⟨rfl, n, rfl⟩))
    go_ret
    exact ⟨ret_bool hf.out.symm, by repeat (first | exact Below.refl _ _ | (with_reducible assumption) | exact HB.out | apply below_alloc | apply pw_below_drewN | apply below_drew | refine below_set ?_ (by first | omega | (simp; done) | (simp; omega)) | assumption)⟩
  | true =>
    cases h2 : inR a (-1000000000) 1000000000 with
    | false =>
      have hf := Lib.hid (show isFr a b = false by simp [isFr, h1, h2])
      go_enter Tryd.func27, Tryd.ntmps27
      go_wp2_with (first | (go_at_call 66; refine (implIn _ _ _ _).mono ?_; rintro e w1 ⟨rfl, n, rfl⟩) | (go_at_call 67; refine (implUp _ _ _ (by omega) (by omega)).mono ?_; rintro e w1 ⟨rfl, n, rfl⟩))
      go_ret
      exact ⟨ret_bool hf.out.symm, by repeat (first | exact Below.refl _ _ | (with_reducible assumption) | exact HB.out | apply below_alloc | apply pw_below_drewN | apply below_drew | refine below_set ?_ (by first | omega | (simp; done) | (simp; omega)) | assumption)⟩
    | true =>
      have hf := Lib.hid (show isFr a b = ((Int.gcd a b : Int) == 1) by simp [isFr, h1, h2]; rfl)
      obtain ⟨k11, k12⟩ := (inR_iff _ _ _).1 h1
      obtain ⟨k21, k22⟩ := (inR_iff _ _ _).1 h2
      go_enter Tryd.func27, Tryd.ntmps27
      go_wp2_with (first | (go_at_call 66; refine (implIn _ _ _ _).mono ?_; rintro e w1 ⟨rfl, n, rfl⟩) | (go_at_call 67; refine (implUp _ _ _ (by omega) (by omega)).mono ?_; rintro e w1 ⟨rfl, n, rfl⟩) | (go_at_call 68; refine (implGcd _ _ _ (by omega) (by omega) (by omega) (by omega)).mono ?_; rintro e w1 ⟨rfl, n, rfl⟩))
      go_ret
      exact ⟨ret_bool hf.out.symm, by repeat (first | exact Below.refl _ _ | (with_reducible assumption) | exact HB.out | apply below_alloc | apply pw_below_drewN | apply below_drew | refine below_set ?_ (by first | omega | (simp; done) | (simp; omega)) | assumption)⟩

end Go.Proofs.YtbijcpnimkcfcaaDoor.H


namespace Go.Proofs.YtbijcpnimkcfcaaDoor.M
end Go.Proofs.YtbijcpnimkcfcaaDoor.M
namespace Go.Proofs.YtbijcpnimkcfcaaDoor.H
open Go.RowKit Go.Proofs.YtbijcpnimkcfcaaDoorW.PrintWords Go.Proofs.YtbijcpnimkcfcaaDoorW.PrintLast Go.Proofs.YtbijcpnimkcfcaaDoorW.PrintMore Go.Proofs.YtbijcpnimkcfcaaDoor.M
attribute [local go_sem] max2_int min2_int max_two min_two max_three min_three max_four min_four
set_option linter.unusedVariables false
set_option linter.unusedSimpArgs false
theorem u8_sub {x : Int} (h0 : 48 ≤ x) (h1 : x < 256) : IntKind.u8.wrap (x - 48) = x - 48 := IntWalk.u8_in _ ⟨by omega, by omega⟩
end Go.Proofs.YtbijcpnimkcfcaaDoor.H



namespace Go.Proofs
open Go.Shelf
def Tryd.laysM173_ren : Go.Shelf.Ren := ⟨fun | 173 => 100 | 246 => 113 | 283 => 129 | 284 => 130 | 285 => 131 | 286 => 132 | 129 => 145 | 317 => 144 | 318 => 146 | 319 => 147 | 320 => 148 | 337 => 151 | 338 => 152 | n => n, fun | 2 => 2 | 3 => 3 | 9 => 9 | 4 => 4 | 171 => 145 | 0 => 0 | 53 => 112 | 37 => 48 | 5 => 5 | 173 => 148 | 212 => 162 | 51 => 153 | 20 => 20 | 213 => 163 | 46 => 119 | 232 => 174 | 233 => 175 | n => n, fun | 17 => 3 | 18 => 6 | 19 => 7 | n => n⟩
theorem Tryd.laysM173 : Go.Proofs.LaysM.n173 Tryd.prog Tryd.laysM173_ren := {
  mixed := by kernel_rfl
  f129 := Tryd.func145.trans (congrArg some (by kernel_rfl))
  f173 := Tryd.func100.trans (congrArg some (by kernel_rfl))
  f246 := Tryd.func113.trans (congrArg some (by kernel_rfl))
  f283 := Tryd.func129.trans (congrArg some (by kernel_rfl))
  f284 := Tryd.func130.trans (congrArg some (by kernel_rfl))
  f285 := Tryd.func131.trans (congrArg some (by kernel_rfl))
  f286 := Tryd.func132.trans (congrArg some (by kernel_rfl))
  f317 := Tryd.func144.trans (congrArg some (by kernel_rfl))
  f318 := Tryd.func146.trans (congrArg some (by kernel_rfl))
  f319 := Tryd.func147.trans (congrArg some (by kernel_rfl))
  f320 := Tryd.func148.trans (congrArg some (by kernel_rfl))
  f337 := Tryd.func151.trans (congrArg some (by kernel_rfl))
  f338 := Tryd.func152.trans (congrArg some (by kernel_rfl))
  t0 := Tryd.underlying0
  a0 := Tryd.isAgg0
  z0 := Tryd.sizeOf0
  v0 := Tryd.zeroValue0
  t2 := Tryd.underlying2
  a2 := Tryd.isAgg2
  z2 := Tryd.sizeOf2
  v2 := Tryd.zeroValue2
  t3 := Tryd.underlying3
  a3 := Tryd.isAgg3
  z3 := Tryd.sizeOf3
  v3 := Tryd.zeroValue3
  t4 := Tryd.underlying4
  a4 := Tryd.isAgg4
  z4 := Tryd.sizeOf4
  v4 := Tryd.zeroValue4
  t5 := Tryd.underlying5
  a5 := Tryd.isAgg5
  z5 := Tryd.sizeOf5
  v5 := Tryd.zeroValue5
  t9 := Tryd.underlying9
  a9 := Tryd.isAgg9
  z9 := Tryd.sizeOf9
  v9 := Tryd.zeroValue9
  t20 := Tryd.underlying20
  a20 := Tryd.isAgg20
  z20 := Tryd.sizeOf20
  v20 := Tryd.zeroValue20
  t37 := Tryd.underlying48
  a37 := Tryd.isAgg48
  z37 := Tryd.sizeOf48
  v37 := Tryd.zeroValue48
  t46 := Tryd.underlying119
  a46 := Tryd.isAgg119
  z46 := Tryd.sizeOf119
  v46 := Tryd.zeroValue119
  t51 := Tryd.underlying153
  a51 := Tryd.isAgg153
  z51 := Tryd.sizeOf153
  v51 := Tryd.zeroValue153
  t53 := Tryd.underlying112
  a53 := Tryd.isAgg112
  z53 := Tryd.sizeOf112
  v53 := Tryd.zeroValue112
  t171 := Tryd.underlying145
  a171 := Tryd.isAgg145
  z171 := Tryd.sizeOf145
  v171 := Tryd.zeroValue145
  t173 := Tryd.underlying148
  a173 := Tryd.isAgg148
  z173 := Tryd.sizeOf148
  v173 := Tryd.zeroValue148
  t212 := Tryd.underlying162
  a212 := Tryd.isAgg162
  z212 := Tryd.sizeOf162
  v212 := Tryd.zeroValue162
  t213 := Tryd.underlying163
  a213 := Tryd.isAgg163
  z213 := Tryd.sizeOf163
  t232 := Tryd.underlying174
  a232 := Tryd.isAgg174
  z232 := Tryd.sizeOf174
  v232 := Tryd.zeroValue174
  t233 := Tryd.underlying175
  a233 := Tryd.isAgg175
  z233 := Tryd.sizeOf175
  v233 := Tryd.zeroValue175
  g17 := by kernel_rfl
  g18 := by kernel_rfl
  g19 := by kernel_rfl
  i0 := by kernel_rfl
  i2 := by kernel_rfl
  i3 := by kernel_rfl
  i4 := by kernel_rfl
  i5 := by kernel_rfl
  i9 := by kernel_rfl
  i20 := by kernel_rfl
  i37 := by kernel_rfl
  i46 := by kernel_rfl
  i51 := by kernel_rfl
  i53 := by kernel_rfl
  i171 := by kernel_rfl
  i173 := by kernel_rfl
  i212 := by kernel_rfl
  i232 := by kernel_rfl
  i233 := by kernel_rfl
  m17 := by kernel_rfl
  m18 := by kernel_rfl
  m19 := by kernel_rfl }
open Go.RowKit Go.Sort Go.Lib in
theorem Tryd.strconv_FormatInt_10 (n : Int) (h0 : -9223372036854775808 ≤ n) (h1 : n ≤ 9223372036854775807) (w : World) (htab : Lib.TabIs Tryd.prog w "internal/strconv.uint64pow10" .u64 Lib.pow10Tab) :
    Calls Tryd.prog 100 #[.int .i64 n, .int .i64 10] w fun e w' => e = .returned (.string ⟨(Lib.itoa n).toArray⟩) ∧ ∃ k os, w' = grow (w.drewN k) os := Any.strconv_FormatInt_10 Tryd.laysM173 n h0 h1 w htab
end Go.Proofs

namespace Go.Proofs.YtbijcpnimkcfcaaDoor.M
def dec (n : Nat) : ByteArray := ⟨(Lib.decDigits n).toArray⟩
def itoaB (x : Int) : ByteArray := ⟨(Lib.itoa x).toArray⟩
theorem nd_le : ∀ (k u : Nat), 0 < k → u < 10 ^ k → Lib.nDigits u ≤ k
  | 0, u, h, _ => by omega
  | k + 1, u, _, h => by
    by_cases h1 : u < 10
    · rw [Lib.nDigits_small h1]; omega
    · rw [Lib.nDigits_big h1]
      have hk : 0 < k := by
        rcases Nat.eq_zero_or_pos k with rfl | hk
        · simp only [Nat.zero_add, Nat.pow_one] at h; omega
        · exact hk
      have := nd_le k (u / 10) hk (by rw [Nat.pow_succ] at h; omega)
      omega
theorem mk_app (a b : List UInt8) : (⟨a.toArray⟩ : ByteArray) ++ ⟨b.toArray⟩ = ⟨(a ++ b).toArray⟩ := by
  apply ByteArray.ext
  simp [ByteArray.data_append]
theorem itoaB_nat (n : Nat) : itoaB (n : Int) = dec n := by
  unfold itoaB dec Lib.itoa
  rw [if_neg (by omega), Int.toNat_natCast]
theorem itoaB_neg {x : Int} (h : x < 0) : itoaB x = ⟨#[45]⟩ ++ dec x.natAbs := by
  unfold itoaB dec Lib.itoa
  rw [if_pos h, show (⟨#[45]⟩ : ByteArray) = ⟨[45].toArray⟩ from rfl, mk_app]
  rfl
def fracT (x y : Int) : ByteArray := itoaB x ++ ⟨#[47]⟩ ++ itoaB y
end Go.Proofs.YtbijcpnimkcfcaaDoor.M
namespace Go.Proofs.YtbijcpnimkcfcaaDoor.H
open Go.RowKit Go.Proofs.YtbijcpnimkcfcaaDoorW.PrintWords Go.Proofs.YtbijcpnimkcfcaaDoorW.PrintLast Go.Proofs.YtbijcpnimkcfcaaDoorW.PrintMore Go.Proofs.YtbijcpnimkcfcaaDoor.M
attribute [local go_sem] max2_int min2_int max_two min_two max_three min_three max_four min_four
set_option linter.unusedVariables false
set_option linter.unusedSimpArgs false
set_option maxRecDepth 100000
end Go.Proofs.YtbijcpnimkcfcaaDoor.H



namespace Go.Proofs.YtbijcpnimkcfcaaDoor.M
theorem dd_digit : ∀ (f n : Nat), n ≤ f → ∀ c ∈ Lib.decDigits n, 48 ≤ c.toNat ∧ c.toNat ≤ 57
  | f, n, hf, c, hc => by
    by_cases h : n < 10
    · rw [Lib.decDigits_one h, List.mem_singleton] at hc
      subst hc
      have : (UInt8.ofNat (48 + n)).toNat = 48 + n := by
        rw [UInt8.toNat_ofNat']; omega
      omega
    · cases f with
      | zero => omega
      | succ f =>
        rw [Lib.decDigits, dif_neg h, List.mem_append, List.mem_singleton] at hc
        rcases hc with hc | rfl
        · exact dd_digit f (n / 10) (by omega) c hc
        · have : (UInt8.ofNat (48 + n % 10)).toNat = 48 + n % 10 := by
            rw [UInt8.toNat_ofNat']; omega
          omega
def fv (acc : Nat) (l : List UInt8) : Nat := l.foldl (fun a c => a * 10 + (c.toNat - 48)) acc
theorem fv_append (acc : Nat) (l m : List UInt8) : fv acc (l ++ m) = fv (fv acc l) m := by unfold fv; rw [List.foldl_append]
theorem fv_le : ∀ (l : List UInt8) (acc : Nat), acc ≤ fv acc l
  | [], acc => Nat.le_refl _
  | c :: r, acc => by
    have := fv_le r (acc * 10 + (c.toNat - 48))
    show acc ≤ fv (acc * 10 + (c.toNat - 48)) r
    omega
theorem fv_dd : ∀ (f n : Nat), n ≤ f → fv 0 (Lib.decDigits n) = n
  | f, n, hf => by
    by_cases h : n < 10
    · rw [Lib.decDigits_one h]
      have : (UInt8.ofNat (48 + n)).toNat = 48 + n := by
        rw [UInt8.toNat_ofNat']; omega
      show 0 * 10 + ((UInt8.ofNat (48 + n)).toNat - 48) = n
      omega
    · cases f with
      | zero => omega
      | succ f =>
        rw [Lib.decDigits, dif_neg h, fv_append, fv_dd f (n / 10) (by omega)]
        have : (UInt8.ofNat (48 + n % 10)).toNat = 48 + n % 10 := by
          rw [UInt8.toNat_ofNat']; omega
        show n / 10 * 10 + ((UInt8.ofNat (48 + n % 10)).toNat - 48) = n
        omega
theorem dd_ne (n : Nat) : Lib.decDigits n ≠ [] := by
  intro h
  have := Lib.decDigits_length n
  have h2 := Lib.nDigits_pos n
  rw [h] at this
  simp at this
  omega
theorem parse_fv (M : Nat) (hM : M ≤ 18446744073709551615) : ∀ (l : List UInt8) (acc : Nat), (∀ c ∈ l, 48 ≤ c.toNat ∧ c.toNat ≤ 57) → fv acc l ≤ M → Lib.parseUintM M acc l = .ok (fv acc l)
  | [], acc, _, _ => rfl
  | c :: r, acc, hd, hv => by
    have h0 := hd c List.mem_cons_self
    have hv' : fv (acc * 10 + (c.toNat - 48)) r ≤ M := hv
    have h1 := fv_le r (acc * 10 + (c.toNat - 48))
    rw [Lib.parseUintM, if_pos h0, if_neg (by omega), if_neg (by omega)]
    exact parse_fv M hM r _ (fun c hc => hd c (List.mem_cons_of_mem _ hc)) hv'
theorem parse_dd (n : Nat) (h : n ≤ 18446744073709551615) : Lib.parseUintB 64 (Lib.decDigits n) = .ok n := by
  unfold Lib.parseUintB
  have hv := fv_dd n n (Nat.le_refl _)
  rw [if_neg (dd_ne n), parse_fv _ (by decide) _ _ (dd_digit n n (Nat.le_refl _)) (by rw [hv]; show n ≤ 2 ^ 64 - 1; omega), hv]
theorem parse_itoa {v : Int} (h0 : -9223372036854775807 ≤ v) (h1 : v ≤ 9223372036854775807) : Lib.parseIntB 64 (Lib.itoa v) = .ok v := by
  unfold Lib.itoa
  by_cases h : v < 0
  · rw [if_pos h, Lib.parseIntB_minus, parse_dd _ (by omega)]
    show (if 2 ^ 63 < v.natAbs then _ else _) = _
    rw [if_neg (by omega)]
    congr 1; omega
  · rw [if_neg h]
    have hp := parse_dd v.toNat (by omega)
    have hd := dd_digit v.toNat v.toNat (Nat.le_refl _)
    cases hl : Lib.decDigits v.toNat with
    | nil => exact absurd hl (dd_ne _)
    | cons c r =>
      rw [hl] at hp hd
      have := hd c List.mem_cons_self
      rw [Lib.parseIntB_plain 64 c r (by omega) (by omega), hp]
      show (if 2 ^ 63 ≤ v.toNat then _ else _) = _
      rw [if_neg (by omega)]
      congr 1; omega
theorem itoa_inj {x y : Int} (h0 : -9223372036854775807 ≤ x) (h1 : x ≤ 9223372036854775807) (g0 : -9223372036854775807 ≤ y) (g1 : y ≤ 9223372036854775807) (h : itoaB x = itoaB y) : x = y := by
  have e : Lib.itoa x = Lib.itoa y := by
    have := congrArg (fun b : ByteArray => b.data.toList) h
    simpa [itoaB] using this
  have hx := parse_itoa h0 h1
  rw [e, parse_itoa g0 g1] at hx
  injection hx with hx
  exact hx.symm
theorem itoa_slash (x : Int) : (47 : UInt8) ∉ bl (itoaB x) := by
  have hb : bl (itoaB x) = Lib.itoa x := by simp [bl, itoaB]
  rw [hb]
  unfold Lib.itoa
  intro h
  split at h
  · rcases List.mem_cons.1 h with h | h
    · exact absurd h (by decide)
    · have := (dd_digit _ _ (Nat.le_refl _) _ h).1
      exact absurd this (by decide)
  · have := (dd_digit _ _ (Nat.le_refl _) _ h).1
    exact absurd this (by decide)
theorem idx_yes : ∀ (a b : List UInt8), (47 : UInt8) ∉ a → Lib.index (a ++ 47 :: b) [47] = a.length
  | [], b, _ => by simp [Lib.index]
  | x :: a, b, h => by
    have hx : ¬ (47 : UInt8) = x := fun e => h (by rw [e]; exact List.mem_cons_self)
    have ih := idx_yes a b (fun hm => h (List.mem_cons_of_mem _ hm))
    have hp : List.isPrefixOf [(47 : UInt8)] (x :: (a ++ 47 :: b)) = false := by simp [List.isPrefixOf, hx]
    have hne : ((a.length : Int) == -1) = false := by simp
    rw [List.cons_append, Lib.index, hp, ih, hne]
    simp
theorem idx_no : ∀ (a : List UInt8), (47 : UInt8) ∉ a → Lib.index a [47] = -1
  | [], _ => by simp [Lib.index]
  | x :: a, h => by
    have hx : ¬ (47 : UInt8) = x := fun e => h (by rw [e]; exact List.mem_cons_self)
    have ih := idx_no a (fun hm => h (List.mem_cons_of_mem _ hm))
    have hp : List.isPrefixOf [(47 : UInt8)] (x :: a) = false := by simp [List.isPrefixOf, hx]
    rw [Lib.index, hp, ih]
    simp
theorem cut_yes {a b : List UInt8} (h : (47 : UInt8) ∉ a) : Lib.cut (a ++ 47 :: b) [47] = (a, b, true) := by
  unfold Lib.cut
  rw [idx_yes a b h, if_pos (by omega), Int.toNat_natCast]
  simp
theorem cut_no {a : List UInt8} (h : (47 : UInt8) ∉ a) : Lib.cut a [47] = (a, [], false) := by
  unfold Lib.cut
  rw [idx_no a h, if_neg (by omega)]
theorem first_slash : ∀ (l : List UInt8), (47 : UInt8) ∉ l ∨ ∃ a b, (47 : UInt8) ∉ a ∧ l = a ++ 47 :: b
  | [] => .inl (by simp)
  | x :: l => by
    by_cases hx : x = 47
    · exact .inr ⟨[], l, by simp, by rw [hx]; rfl⟩
    · rcases first_slash l with h | ⟨a, b, h, rfl⟩
      · exact .inl (fun hm => by rcases List.mem_cons.1 hm with e | e; exact hx e.symm; exact h e)
      · exact .inr ⟨x :: a, b, (fun hm => by rcases List.mem_cons.1 hm with e | e; exact hx e.symm; exact h e), rfl⟩
theorem slash_inj {a b a' b' : List UInt8} (h : (47 : UInt8) ∉ a) (h' : (47 : UInt8) ∉ a') (e : a ++ 47 :: b = a' ++ 47 :: b') : a = a' ∧ b = b' := by
  have h1 := cut_yes (b := b) h
  rw [e, cut_yes h'] at h1
  simp only [Prod.mk.injEq] at h1
  exact ⟨h1.1.symm, h1.2.1.symm⟩
theorem bl_fracT (x y : Int) : bl (fracT x y) = bl (itoaB x) ++ 47 :: bl (itoaB y) := by
  unfold fracT
  rw [bl_append, bl_append]
  show bl (itoaB x) ++ [47] ++ _ = _
  rw [List.append_assoc]; rfl
def PF (s : ByteArray) (x y q : Int) : Prop := (isFr x y = true ∧ s = fracT x y ∧ q = 0) ∨ ((¬ ∃ x y, isFr x y = true ∧ s = fracT x y) ∧ x = 0 ∧ y = 0 ∧ q = 6)
theorem PF_one {s : ByteArray} {x y q x' y' q' : Int} (hb : ∀ {x y : Int}, isFr x y = true → -9223372036854775807 ≤ x ∧ x ≤ 9223372036854775807 ∧ -9223372036854775807 ≤ y ∧ y ≤ 9223372036854775807) (h : PF s x y q) (h' : PF s x' y' q') : x = x' ∧ y = y' ∧ q = q' := by
  rcases h with ⟨h1, h2, rfl⟩ | ⟨h1, rfl, rfl, rfl⟩
  · rcases h' with ⟨g1, g2, rfl⟩ | ⟨g1, _⟩
    · have e : bl (itoaB x) ++ 47 :: bl (itoaB y) = bl (itoaB x') ++ 47 :: bl (itoaB y') := by rw [← bl_fracT, ← bl_fracT, ← h2, ← g2]
      obtain ⟨e1, e2⟩ := slash_inj (itoa_slash x) (itoa_slash x') e
      obtain ⟨a0, a1, a2, a3⟩ := hb h1
      obtain ⟨b0, b1, b2, b3⟩ := hb g1
      exact ⟨itoa_inj a0 a1 b0 b1 (bl_ext e1), itoa_inj a2 a3 b2 b3 (bl_ext e2), rfl⟩
    · exact absurd ⟨x, y, h1, h2⟩ g1
  · rcases h' with ⟨g1, g2, rfl⟩ | ⟨_, rfl, rfl, rfl⟩
    · exact absurd ⟨x', y', g1, g2⟩ h1
    · exact ⟨rfl, rfl, rfl⟩
def NumOk (s : ByteArray) (x : Int) : Prop := (∃ n : Nat, n < 10000000000 ∧ s = dec n ∧ x = n) ∨ ((¬ ∃ n : Nat, n < 10000000000 ∧ s = dec n) ∧ x = -1)
def NumSt (s : ByteArray) (k n : Nat) : Prop := (k = 0 ∧ n = 0) ∨ (0 < k ∧ (bl s).take k = Lib.decDigits n ∧ (n = 0 → k = 1))
def Lead (s : ByteArray) : Prop := ∀ h : 1 < s.size, (s[0]'(by omega)).toNat ≠ 48
theorem bl_dec (n : Nat) : bl (dec n) = Lib.decDigits n := by simp [bl, dec]
theorem bl_take_next {s : ByteArray} {k : Nat} (hk : k < s.size) : (bl s).take (k + 1) = (bl s).take k ++ [s[k]'hk] := by
  rw [List.take_add_one]
  congr 1
  rw [List.getElem?_eq_getElem (by rw [bl_len]; exact hk)]; rfl
theorem byte_back {c : UInt8} (h : 48 ≤ c.toNat ∧ c.toNat ≤ 57) : UInt8.ofNat (48 + (c.toNat - 48)) = c := by
  apply UInt8.toNat_inj.1
  rw [UInt8.toNat_ofNat']; omega
theorem num_step {s : ByteArray} {k n : Nat} (hk : k < s.size) (hd : 48 ≤ (s[k]'hk).toNat ∧ (s[k]'hk).toNat ≤ 57) (hl : Lead s) (h : NumSt s k n) : NumSt s (k + 1) (n * 10 + ((s[k]'hk).toNat - 48)) := by
  obtain ⟨c, hc⟩ : ∃ c, s[k]'hk = c := ⟨_, rfl⟩
  rw [hc] at hd ⊢
  rcases h with ⟨rfl, rfl⟩ | ⟨h0, h1, h2⟩
  · refine .inr ⟨by omega, ?_, fun _ => rfl⟩
    rw [bl_take_next hk, hc, Nat.zero_mul, Nat.zero_add, Lib.decDigits_one (by omega), byte_back hd]; rfl
  · have hn : n ≠ 0 := by
      intro hn
      have hk1 := h2 hn
      subst hk1 hn
      have := hl (by omega)
      rw [show (1 : Nat) = 0 + 1 from rfl, bl_take_next (by omega), Lib.decDigits_one (by omega)] at h1
      simp only [List.take_zero, List.nil_append, List.cons.injEq, and_true] at h1
      rw [h1] at this
      exact this rfl
    refine .inr ⟨by omega, ?_, fun h => by omega⟩
    rw [bl_take_next hk, hc, h1]
    conv => rhs; rw [Lib.decDigits, dif_neg (by omega)]
    rw [show (n * 10 + (c.toNat - 48)) / 10 = n by omega, show (n * 10 + (c.toNat - 48)) % 10 = c.toNat - 48 by omega, byte_back hd]
theorem num_lt {s : ByteArray} {k n : Nat} (h : NumSt s k n) (hk : k ≤ s.size) (h10 : k ≤ 10) : n < 10000000000 := by
  rcases h with ⟨_, rfl⟩ | ⟨h0, h1, _⟩
  · omega
  · have hl := Lib.decDigits_length n
    rw [← h1, List.length_take, bl_len, Nat.min_eq_left hk] at hl
    have := Lib.lt_pow_nDigits n
    rw [← hl] at this
    have : 10 ^ k ≤ 10 ^ 10 := Nat.pow_le_pow_right (by omega) h10
    omega
theorem num_end {s : ByteArray} {n : Nat} (h : NumSt s s.size n) (h0 : 0 < s.size) (h10 : s.size ≤ 10) : NumOk s n := by
  refine .inl ⟨n, num_lt h (Nat.le_refl _) h10, ?_, rfl⟩
  rcases h with ⟨h1, _⟩ | ⟨_, h1, _⟩
  · omega
  · apply bl_ext
    rw [bl_dec, ← h1, List.take_of_length_le (by rw [bl_len]; omega)]
theorem dec_pos (n : Nat) : 0 < (dec n).size := by
  rw [← bl_len, bl_dec]
  exact List.length_pos_iff.2 (dd_ne n)
theorem num_none {s : ByteArray} (h : ∀ n : Nat, n < 10000000000 → s ≠ dec n) : NumOk s (-1) := .inr ⟨fun ⟨n, h1, h2⟩ => h n h1 h2, rfl⟩
theorem num_empty {s : ByteArray} (h : s.size = 0) : NumOk s (-1) := num_none fun n _ e => by
  have := dec_pos n
  rw [← e] at this
  omega
theorem num_long {s : ByteArray} (h : 10 < s.size) : NumOk s (-1) := num_none fun n hn e => by
  have h1 : (dec n).size = Lib.nDigits n := by rw [← bl_len, bl_dec, Lib.decDigits_length]
  have := nd_le 10 n (by decide) (by omega)
  rw [← e] at h1
  omega
theorem dd_head : ∀ (f n : Nat), n ≤ f → 0 < n → ∀ (c : UInt8) (r : List UInt8), Lib.decDigits n = c :: r → c.toNat ≠ 48
  | f, n, hf, h0, c, r, e => by
    by_cases h : n < 10
    · rw [Lib.decDigits_one h] at e
      simp only [List.cons.injEq] at e
      rw [← e.1, UInt8.toNat_ofNat']; omega
    · cases f with
      | zero => omega
      | succ f =>
        rw [Lib.decDigits, dif_neg h] at e
        cases hd : Lib.decDigits (n / 10) with
        | nil => exact absurd hd (dd_ne _)
        | cons c' r' =>
          rw [hd, List.cons_append] at e
          simp only [List.cons.injEq] at e
          rw [← e.1]
          exact dd_head f (n / 10) (by omega) (by omega) c' r' hd
theorem num_zero {s : ByteArray} (h : 1 < s.size) (h0 : (s[0]'(by omega)).toNat = 48) : NumOk s (-1) := num_none fun n _ e => by
  have h1 : bl s = Lib.decDigits n := by rw [e, bl_dec]
  have hl : (bl s).length = s.size := bl_len s
  cases hb : bl s with
  | nil => rw [hb] at hl; simp at hl; omega
  | cons c r =>
    have hc : s[0]'(by omega) = c := by
      have : (bl s)[0]'(by omega) = c := by simp [hb]
      exact this
    rw [hc] at h0
    by_cases hn : n = 0
    · subst hn
      rw [h1, Lib.decDigits_one (by omega)] at hl
      simp at hl; omega
    · exact dd_head n n (Nat.le_refl _) (by omega) c r (by rw [← h1, hb]) h0
theorem num_bad {s : ByteArray} {k : Nat} (hk : k < s.size) (h : ¬ (48 ≤ (s[k]'hk).toNat ∧ (s[k]'hk).toNat ≤ 57)) : NumOk s (-1) := num_none fun n _ e => by
  have h1 : bl s = Lib.decDigits n := by rw [e, bl_dec]
  exact h (dd_digit n n (Nat.le_refl _) _ (by rw [← h1, show s[k]'hk = (bl s)[k]'(by rw [bl_len]; exact hk) from rfl]; exact List.getElem_mem _))
def Jn (ps : List ByteArray) : List UInt8 := (ps.map fun p => bl p ++ [47]).flatten
def SplitOk (s : ByteArray) (ps : List ByteArray) : Prop := ∃ out last, ps = out ++ [last] ∧ bl s = Jn out ++ bl last ∧ ∀ p ∈ ps, (47 : UInt8) ∉ bl p
def SplitSt (s : ByteArray) (out : List ByteArray) (a j : Nat) : Prop := a ≤ j ∧ j ≤ s.size ∧ bl s = Jn out ++ (bl s).drop a ∧ (∀ p ∈ out, (47 : UInt8) ∉ bl p) ∧ (∀ i, (h : i < s.size) → a ≤ i → i < j → (s[i]'h).toNat ≠ 47)
theorem split_zero (s : ByteArray) : SplitSt s [] 0 0 := ⟨Nat.le_refl _, Nat.zero_le _, by simp [Jn], by simp, fun i _ _ h => by omega⟩
theorem split_step {s : ByteArray} {out : List ByteArray} {a j : Nat} (hj : j < s.size) (hc : (s[j]'hj).toNat ≠ 47) (h : SplitSt s out a j) : SplitSt s out a (j + 1) := by
  obtain ⟨h1, h2, h3, h4, h5⟩ := h
  refine ⟨by omega, by omega, h3, h4, fun i hi ha hlt => ?_⟩
  by_cases e : i = j
  · subst e; exact hc
  · exact h5 i hi ha (by omega)
theorem bl_extract (s : ByteArray) (a b : Nat) : bl (s.extract a b) = ((bl s).take b).drop a := by
  unfold bl
  simp [ByteArray.data_extract, List.take_drop]
  by_cases h : a ≤ b
  · rw [show a + (b - a) = b by omega]
  · rw [List.drop_of_length_le (by rw [List.length_take]; omega), List.drop_of_length_le (by rw [List.length_take]; omega)]
theorem free_piece {s : ByteArray} {a j : Nat} (h2 : j ≤ s.size) (h : ∀ i, (h : i < s.size) → a ≤ i → i < j → (s[i]'h).toNat ≠ 47) : (47 : UInt8) ∉ bl (s.extract a j) := by
  intro hm
  rw [bl_extract] at hm
  obtain ⟨i, hi, e⟩ := List.getElem_of_mem hm
  rw [List.length_drop, List.length_take, bl_len] at hi
  rw [List.getElem_drop, List.getElem_take] at e
  have : (s[a + i]'(by omega)).toNat ≠ 47 := h (a + i) (by omega) (by omega) (by omega)
  rw [show s[a + i]'(by omega) = (bl s)[a + i]'(by rw [bl_len]; omega) from rfl, e] at this
  exact this rfl
theorem Jn_snoc (out : List ByteArray) (p : ByteArray) : Jn (out ++ [p]) = Jn out ++ (bl p ++ [47]) := by simp [Jn]
theorem split_cut {s : ByteArray} {out : List ByteArray} {a j : Nat} (hj : j < s.size) (hc : (s[j]'hj).toNat = 47) (h : SplitSt s out a j) : SplitSt s (out ++ [s.extract a j]) (j + 1) (j + 1) := by
  obtain ⟨h1, h2, h3, h4, h5⟩ := h
  refine ⟨Nat.le_refl _, by omega, ?_, ?_, fun i _ h6 h7 => by omega⟩
  · rw [Jn_snoc, bl_extract]
    conv => lhs; rw [h3]
    rw [List.append_assoc]
    congr 1
    have hb : (bl s)[j]? = some 47 := by
      rw [List.getElem?_eq_getElem (by rw [bl_len]; exact hj)]
      congr 1
      apply UInt8.toNat_inj.1
      exact hc
    have hjl : j < (bl s).length := by rw [bl_len]; exact hj
    conv => lhs; rw [← List.take_append_drop j (bl s)]
    rw [List.drop_append_of_le_length (by rw [List.length_take]; omega), List.append_assoc]
    congr 1
    rw [List.drop_eq_getElem_cons hjl]
    rw [List.getElem?_eq_getElem hjl] at hb
    rw [Option.some.inj hb]; rfl
  · intro p hp
    rcases List.mem_append.1 hp with hp | hp
    · exact h4 p hp
    · rw [List.mem_singleton.1 hp]; exact free_piece (by omega) h5
theorem split_end {s : ByteArray} {out : List ByteArray} {a : Nat} (h : SplitSt s out a s.size) : SplitOk s (out ++ [s.extract a s.size]) := by
  obtain ⟨h1, h2, h3, h4, h5⟩ := h
  refine ⟨out, _, rfl, ?_, ?_⟩
  · rw [bl_extract, List.take_of_length_le (by rw [bl_len]; omega)]; exact h3
  · intro p hp
    rcases List.mem_append.1 hp with hp | hp
    · exact h4 p hp
    · rw [List.mem_singleton.1 hp]; exact free_piece (Nat.le_refl _) h5
theorem split_two {s p0 p1 : ByteArray} (h : SplitOk s [p0, p1]) : bl s = bl p0 ++ 47 :: bl p1 := by
  obtain ⟨out, last, h1, h2, _⟩ := h
  have e : out = [p0] ∧ last = p1 := by
    match out, h1 with
    | [], h1 => simp at h1
    | [a], h1 => simp at h1; exact ⟨by rw [h1.1], h1.2.symm⟩
    | a :: b :: r, h1 => simp at h1
  rw [h2, e.1, e.2]
  simp [Jn]
theorem split_frac {s : ByteArray} {ps : List ByteArray} {x y : Int} (h : SplitOk s ps) (e : s = fracT x y) : ps = [itoaB x, itoaB y] := by
  obtain ⟨out, last, rfl, h2, h3⟩ := h
  rw [e, bl_fracT] at h2
  have hl : (47 : UInt8) ∉ bl last := h3 last (by simp)
  match out, h2, h3 with
  | [], h2, _ =>
    have : (47 : UInt8) ∈ bl last := by
      have h2' : bl (itoaB x) ++ 47 :: bl (itoaB y) = bl last := h2
      rw [← h2']; simp
    exact absurd this hl
  | [p], h2, h3 =>
    have h2' : bl (itoaB x) ++ 47 :: bl (itoaB y) = bl p ++ 47 :: bl last := by rw [h2]; simp [Jn]
    obtain ⟨e1, e2⟩ := slash_inj (itoa_slash x) (h3 p (by simp)) h2'
    rw [bl_ext e1, bl_ext e2]; rfl
  | p :: q :: r, h2, h3 =>
    have h2' : bl (itoaB x) ++ 47 :: bl (itoaB y) = bl p ++ 47 :: (bl q ++ 47 :: (Jn r ++ bl last)) := by rw [h2]; simp [Jn]
    obtain ⟨_, e2⟩ := slash_inj (itoa_slash x) (h3 p (by simp)) h2'
    exact absurd (by rw [e2]; simp) (itoa_slash y)
end Go.Proofs.YtbijcpnimkcfcaaDoor.M

namespace Go.Proofs.YtbijcpnimkcfcaaDoor.M
theorem fr_b {x y : Int} (h : isFr x y = true) : -9223372036854775807 ≤ x ∧ x ≤ 9223372036854775807 ∧ -9223372036854775807 ≤ y ∧ y ≤ 9223372036854775807 := by
  have := (isFr_iff x y).1 h
  omega
end Go.Proofs.YtbijcpnimkcfcaaDoor.M
namespace Go.Proofs.YtbijcpnimkcfcaaDoor.H
open Go.RowKit Go.Proofs.YtbijcpnimkcfcaaDoorW.PrintWords Go.Proofs.YtbijcpnimkcfcaaDoorW.PrintLast Go.Proofs.YtbijcpnimkcfcaaDoorW.PrintMore Go.Proofs.YtbijcpnimkcfcaaDoor.M
attribute [local go_sem] max2_int min2_int max_two min_two max_three min_three max_four min_four
set_option linter.unusedVariables false
set_option linter.unusedSimpArgs false
set_option maxRecDepth 100000
def Tab (w : World) : Prop := Lib.TabIs Tryd.prog w "internal/strconv.uint64pow10" .u64 Lib.pow10Tab
theorem tab_on {w W : World} (h : Tab w) (hb : Below w.heap.size w W) : Tab W := Lib.tabBelow_of_tabIs h _ hb
theorem below_grow (w : World) (k : Nat) (os : Array Obj) : Below w.heap.size w (Go.Sort.grow (w.drewN k) os) := by
  have h0 : Below w.heap.size w (w.drewN k) := pw_below_drewN (Below.refl _ _) _
  refine h0.trans ⟨rfl, rfl, rfl, ?_, fun j hj => ?_⟩
  · show _ ≤ (_ ++ os).size
    rw [Array.size_append]; omega
  · show ((w.drewN k).heap ++ os)[j]? = _
    rw [Array.getElem?_append_left (Nat.lt_of_lt_of_le hj h0.size)]
end Go.Proofs.YtbijcpnimkcfcaaDoor.H



namespace Go.Proofs.YtbijcpnimkcfcaaDoor.H
open Go.RowKit Go.Proofs.YtbijcpnimkcfcaaDoorW.PrintWords Go.Proofs.YtbijcpnimkcfcaaDoorW.PrintLast Go.Proofs.YtbijcpnimkcfcaaDoorW.PrintMore Go.Proofs.YtbijcpnimkcfcaaDoor.M
attribute [local go_sem] max2_int min2_int max_two min_two max_three min_three max_four min_four
set_option linter.unusedVariables false
set_option linter.unusedSimpArgs false
set_option maxRecDepth 100000
set_option maxHeartbeats 16000000 in
theorem specNumber (s : ByteArray) (w : World) (hs : s.size ≤ 1048576) : Calls Tryd.prog 90 #[.string s] w fun e w' => ∃ x : Int, e = .returned (.int .i64 x) ∧ NumOk s x ∧ Below w.heap.size w w' := by
  have HS := Aside0.mk (Sep.refl w)
  by_cases hz : s.size = 0
  · have hzi : (s.size : Int) = 0 := by omega
    go_enter Tryd.func90, Tryd.ntmps90
    go_wp2
    go_ret
    exact ⟨_, rfl, num_empty hz, HS.out.below⟩
  have hzi : ((s.size : Int) == 0) = false := by rw [beq_eq_false_iff_ne]; omega
  by_cases h10 : 10 < s.size
  · skip
    go_enter Tryd.func90, Tryd.ntmps90
    go_wp2
    go_ret
    exact ⟨_, rfl, num_long h10, HS.out.below⟩
  by_cases hone : 1 < s.size
  · obtain ⟨c0, hc0⟩ : ∃ c : Int, ∀ h : 0 < s.size, ((s[0]'h).toNat : Int) = c := ⟨((s[0]'(by omega)).toNat : Int), fun _ => rfl⟩
    have HC0 := Aside0.mk (hc0 (by omega))
    by_cases h48 : c0 = 48
    · subst h48
      go_enter Tryd.func90, Tryd.ntmps90
      go_wp2
      go_ret
      exact ⟨_, rfl, num_zero hone (by have := HC0.out; omega), HS.out.below⟩
    have HL := Aside0.mk (show Lead s from fun h => by have := HC0.out; omega)
    have h48b : (c0 == 48) = false := by rw [beq_eq_false_iff_ne]; exact h48
    go_enter Tryd.func90, Tryd.ntmps90
    go_wp2
    clear hc0 h48 h48b
    go_loopw [3, 4] (fun x v w' => ∃ k n : Nat, k ≤ s.size ∧ v = .int .i64 (k : Int) ∧ x = .int .i64 (n : Int) ∧ n < 10000000000 ∧ Aside0 (NumSt s k n) ∧ Aside0 (Mod w w' No [])) (fun _ v _ => s.size - (intOf v).toNat)
    case atStart => exact ⟨0, 0, by omega, rfl, rfl, by omega, ⟨.inl ⟨rfl, rfl⟩⟩, HS⟩
    case round =>
      clear HS
      obtain ⟨k, n, hk, rfl, rfl, hn, HX, HS⟩ := hrel
      by_cases hlt : k < s.size
      · obtain ⟨c, hc⟩ : ∃ c : Int, ∀ h : k < s.size, ((s[k]'h).toNat : Int) = c := ⟨((s[k]'hlt).toNat : Int), fun _ => rfl⟩
        have HC := Aside0.mk (hc hlt)
        have hc0 : 0 ≤ c := by rw [← hc hlt]; omega
        have hc1 : c < 256 := by have := (s[k]'hlt).toNat_lt; rw [← hc hlt]; omega
        by_cases h1 : c < 48
        · skip
          go_wp2
          go_ret
          exact ⟨_, rfl, num_bad hlt (by have := HC.out; omega), HS.out.below⟩
        · by_cases h2 : 57 < c
          · skip
            go_wp2
            go_ret
            exact ⟨_, rfl, num_bad hlt (by have := HC.out; omega), HS.out.below⟩
          · have hu := u8_sub (x := c) (by omega) hc1
            have hw1 : IntKind.i64.wrap ((n : Int) * 10) = (n : Int) * 10 := (i64_w _).trans (wrap_id (by omega) (by omega))
            have hw2 : IntKind.i64.wrap (c - 48) = c - 48 := (i64_w _).trans (wrap_id (by omega) (by omega))
            have hw3 : IntKind.i64.wrap ((n : Int) * 10 + (c - 48)) = (n : Int) * 10 + (c - 48) := (i64_w _).trans (wrap_id (by omega) (by omega))
            have HN := Aside0.mk (num_step hlt (by have := HC.out; omega) HL.out HX.out)
            have HNL := Aside0.mk (num_lt HN.out (by omega) (by omega))
            go_wp2
            go_roundw
            case rel => exact ⟨k + 1, n * 10 + ((s[k]'hlt).toNat - 48), by omega, by go_num, by congr 1; have := HC.out; omega, HNL.out, HN, HS⟩
            case measure => simp [intOf]; omega
      · obtain rfl : k = s.size := by omega
        go_wp2
        go_ret
        exact ⟨_, rfl, num_end HX.out (by omega) (by omega), HS.out.below⟩
  · have HL := Aside0.mk (show Lead s from fun h => absurd h hone)
    go_enter Tryd.func90, Tryd.ntmps90
    go_wp2
    go_loopw [3, 4] (fun x v w' => ∃ k n : Nat, k ≤ s.size ∧ v = .int .i64 (k : Int) ∧ x = .int .i64 (n : Int) ∧ n < 10000000000 ∧ Aside0 (NumSt s k n) ∧ Aside0 (Mod w w' No [])) (fun _ v _ => s.size - (intOf v).toNat)
    case atStart => exact ⟨0, 0, by omega, rfl, rfl, by omega, ⟨.inl ⟨rfl, rfl⟩⟩, HS⟩
    case round =>
      clear HS
      obtain ⟨k, n, hk, rfl, rfl, hn, HX, HS⟩ := hrel
      by_cases hlt : k < s.size
      · obtain ⟨c, hc⟩ : ∃ c : Int, ∀ h : k < s.size, ((s[k]'h).toNat : Int) = c := ⟨((s[k]'hlt).toNat : Int), fun _ => rfl⟩
        have HC := Aside0.mk (hc hlt)
        have hc0 : 0 ≤ c := by rw [← hc hlt]; omega
        have hc1 : c < 256 := by have := (s[k]'hlt).toNat_lt; rw [← hc hlt]; omega
        by_cases h1 : c < 48
        · skip
          go_wp2
          go_ret
          exact ⟨_, rfl, num_bad hlt (by have := HC.out; omega), HS.out.below⟩
        · by_cases h2 : 57 < c
          · skip
            go_wp2
            go_ret
            exact ⟨_, rfl, num_bad hlt (by have := HC.out; omega), HS.out.below⟩
          · have hu := u8_sub (x := c) (by omega) hc1
            have hw1 : IntKind.i64.wrap ((n : Int) * 10) = (n : Int) * 10 := (i64_w _).trans (wrap_id (by omega) (by omega))
            have hw2 : IntKind.i64.wrap (c - 48) = c - 48 := (i64_w _).trans (wrap_id (by omega) (by omega))
            have hw3 : IntKind.i64.wrap ((n : Int) * 10 + (c - 48)) = (n : Int) * 10 + (c - 48) := (i64_w _).trans (wrap_id (by omega) (by omega))
            have HN := Aside0.mk (num_step hlt (by have := HC.out; omega) HL.out HX.out)
            have HNL := Aside0.mk (num_lt HN.out (by omega) (by omega))
            go_wp2
            go_roundw
            case rel => exact ⟨k + 1, n * 10 + ((s[k]'hlt).toNat - 48), by omega, by go_num, by congr 1; have := HC.out; omega, HNL.out, HN, HS⟩
            case measure => simp [intOf]; omega
      · obtain rfl : k = s.size := by omega
        go_wp2
        go_ret
        exact ⟨_, rfl, num_end HX.out (by omega) (by omega), HS.out.below⟩

abbrev rowP (B : Option Addr) (b : Nat) (y : List ByteArray) : As := rw' Kd.string rfl 9 (.slice B y.length b) y
set_option maxHeartbeats 16000000 in
theorem specSplit (s : ByteArray) (w : World) (hs : s.size ≤ 1048576) : Calls Tryd.prog 89 #[.string s, .int .u8 47] w fun e w' => ∃ (B : Option Addr) (b : Nat) (ps : List ByteArray), e = .returned (.slice B ps.length b) ∧ SplitOk s ps ∧ ps.length ≤ 1048577 ∧ Sep w w' [rowP B b ps] := by
  have HS := Aside0.mk (Sep.refl w)
  go_enter Tryd.func89, Tryd.ntmps89
  go_wp2_with (first | ((with_reducible refine gate_dst (N := 8) rfl ?_); refine wpList_stp (fun K hK => ?_); refine stp_lit (Kd.string) rfl 9 (by rfl) HS (xs := ([] : List ByteArray)) (inner := []) (by first | (go_simp; done) | (go_simp; rfl)) (fun W base ok => Reps.none _ _) (by simp) ?_; clear HS; intro A_o c_o w1 HS; refine hK _ _ ?_; clear hK K))
  go_loopw [5, 6, 7] (fun x a v w' => ∃ (j q : Nat) (B : Option Addr) (b : Nat) (y : List ByteArray), j ≤ s.size ∧ q ≤ j ∧ y.length ≤ j ∧ v = .int .i64 (j : Int) ∧ a = .int .i64 (q : Int) ∧ x = .slice B y.length b ∧ Aside0 (SplitSt s y q j) ∧ Aside0 (Mod w w' No [rowP B b y])) (fun _ _ v _ => s.size - (intOf v).toNat)
  case atStart => exact ⟨0, 0, _, c_o, [], by omega, by omega, by simp, rfl, rfl, rfl, ⟨split_zero s⟩, HS⟩
  case round =>
    clear HS
    obtain ⟨j, q, B, b, y, hj, hq, hy, rfl, rfl, rfl, HX, HS⟩ := hrel
    by_cases hlt : j < s.size
    · obtain ⟨c, hc⟩ : ∃ c : Int, ∀ h : j < s.size, ((s[j]'h).toNat : Int) = c := ⟨((s[j]'hlt).toNat : Int), fun _ => rfl⟩
      have HC := Aside0.mk (hc hlt)
      by_cases h47 : c = 47
      · subst h47
        have HN := Aside0.mk (split_cut hlt (by have := HC.out; omega) HX.out)
        obtain ⟨p, hp⟩ : ∃ p, s.extract q j = p := ⟨_, rfl⟩
        rw [hp] at HN
        go_wp2_with (first | ((with_reducible refine gate_builtin (b := .append) (xs := #[.tmp 20, .tmp 25]) rfl ?_); at_builtin; refine wpList_stp (fun K hK => ?_); refine stp_app (Kd.string) rfl (by rfl) HS 0 rfl (.tmp 20) (.tmp 25) 75 9 (.string ⟨#[]⟩) 16 rfl Tryd.underlying75 infoString (by kernel_rfl) (p) [.string p] rfl (by first | rfl | (show Value.slice (some ⟨_, 0, none⟩) 1 1 = _; simp)) (fun _ _ _ => rfl) (by omega) ?_; clear HS; intro A_y' c_y' y' w1 Ny' HS; simp only [List.set_cons_zero, List.set_cons_succ] at HS; refine hK _ _ ?_; clear hK K))
        go_roundw
        case rel => exact ⟨j + 1, j + 1, _, c_y', y', by omega, by omega, by rw [Ny'.out, List.length_append]; simp; omega, by go_num, by go_num, rfl, ⟨by rw [Ny'.out]; exact HN.out⟩, HS⟩
        case measure => simp [intOf]; omega
      · have HN := Aside0.mk (split_step hlt (by have := HC.out; omega) HX.out)
        go_wp2
        go_roundw
        case rel => exact ⟨j + 1, q, _, b, y, by omega, by omega, by omega, by go_num, rfl, rfl, HN, HS⟩
        case measure => simp [intOf]; omega
    · obtain rfl : j = s.size := by omega
      have HN := Aside0.mk (split_end HX.out)
      obtain ⟨p, hp⟩ : ∃ p, s.extract q s.size = p := ⟨_, rfl⟩
      rw [hp] at HN
      go_wp2_with (first | ((with_reducible refine gate_builtin (b := .append) (xs := #[.tmp 29, .tmp 33]) rfl ?_); at_builtin; refine wpList_stp (fun K hK => ?_); refine stp_app (Kd.string) rfl (by rfl) HS 0 rfl (.tmp 29) (.tmp 33) 75 9 (.string ⟨#[]⟩) 16 rfl Tryd.underlying75 infoString (by kernel_rfl) (p) [.string p] rfl (by first | rfl | (show Value.slice (some ⟨_, 0, none⟩) 1 1 = _; simp)) (fun _ _ _ => rfl) (by omega) ?_; clear HS; intro A_y' c_y' y' w1 Ny' HS; simp only [List.set_cons_zero, List.set_cons_succ] at HS; refine hK _ _ ?_; clear hK K))
      go_ret
      exact ⟨_, c_y', y', rfl, by rw [Ny'.out]; exact HN.out, by rw [Ny'.out, List.length_append]; simp; omega, HS.out⟩
end Go.Proofs.YtbijcpnimkcfcaaDoor.H



