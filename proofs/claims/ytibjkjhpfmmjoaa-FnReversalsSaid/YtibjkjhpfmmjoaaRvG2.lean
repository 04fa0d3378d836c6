/- Plain facts and contracts of functions that the law's walk uses. Conditions: those that stand in each statement. -/
import Derived.Test.YtibjkjhpfmmjoaaRvG1
import Derived.Test.YtibjkjhpfmmjoaaWTab
import Derived.Laws.CopyRow
import Derived.WalkSpells
import Derived.Deep.RegionWith
import Derived.Lib.IndexBytes
import Derived.WalkLawsBesides
namespace Go.Proofs.Ytibjkjhpfmmjoaa.H
open Go.RowKit Go.Proofs.YtibjkjhpfmmjoaaW.PrintWords Go.Proofs.YtibjkjhpfmmjoaaW.PrintLast Go.Proofs.YtibjkjhpfmmjoaaW.PrintMore Go.Proofs.Ytibjkjhpfmmjoaa.M
set_option linter.unusedVariables false
set_option linter.unusedSimpArgs false
/-- An assertion on the blocks S. -/
structure As where
  S : Nat → Prop
  I : World → Prop
  mv : ∀ {W W' : World}, (∀ k, S k → W'.heap[k]? = W.heap[k]?) → I W → I W'
  lt : ∀ {W : World}, I W → ∀ k, S k → k < W.heap.size
/-- A block whose cells are known. -/
def bx (g t : Nat) (cs : Array Value) : As where
  S := fun k => k = g
  I := fun W => W.heap[g]? = some (.cells cs t (0, 0))
  mv := fun h hI => (h _ rfl).trans hI
  lt := fun h k hk => by subst hk; exact blk_lt h
theorem R_mv {α : Type} {d : Kd α} (hE : d.E = []) {e base : Nat} {v : Value} {xs : List α} {W W' : World} (hm : ∀ k, v.ownBlock = some k → W'.heap[k]? = W.heap[k]?) (h : d.R e W base (fun _ => True) v xs) : d.R e W' base (fun _ => True) v xs :=
  Kd.R_mono (Kd.R_step (Kd.R_tight hE h) (fun k hk _ => hm k hk.symm)) (fun _ _ => trivial)
/-- A row of one's own. -/
def rw' {α : Type} (d : Kd α) (hE : d.E = []) (e : Nat) (v : Value) (xs : List α) : As where
  S := fun k => v.ownBlock = some k
  I := fun W => d.R e W 0 (fun _ => True) v xs
  mv := fun h hI => R_mv hE h hI
  lt := fun h k hk => Kd.R_lt h k hk
/-- From w to W: the blocks S and new ones may have changed; L holds of W, each assertion on blocks of its own. -/
structure Mod (w W : World) (S : Nat → Prop) (L : List As) : Prop where
  os : W.os = w.os
  tape : W.tape = w.tape
  output : W.output = w.output
  size : w.heap.size ≤ W.heap.size
  block : ∀ k, k < w.heap.size → ¬ S k → W.heap[k]? = w.heap[k]?
  all : ∀ a ∈ L, a.I W ∧ ∀ k, a.S k → S k ∨ w.heap.size ≤ k
  dis : L.Pairwise fun a b => ∀ k, a.S k → b.S k → False
def No : Nat → Prop := fun _ => False
abbrev Sep (w W : World) (L : List As) : Prop := Mod w W No L
variable {w W W1 : World} {S S1 : Nat → Prop} {L R A : List As}
theorem Mod.below (h : Mod w W No L) : Below w.heap.size w W := ⟨h.os, h.tape, h.output, h.size, fun k hk => h.block k hk id⟩
theorem Sep.of (h : Below w.heap.size w W) : Sep w W [] := ⟨h.os, h.tape, h.output, h.size, fun k hk _ => h.block k hk, fun _ h => absurd h List.not_mem_nil, List.Pairwise.nil⟩
theorem Sep.refl (w : World) : Sep w w [] := .of (Below.refl _ _)
theorem Sep.one {a : As} (h : Below w.heap.size w W) (ha : a.I W) (hn : ∀ k, a.S k → w.heap.size ≤ k) : Sep w W [a] :=
  ⟨h.os, h.tape, h.output, h.size, fun k hk _ => h.block k hk, fun b hb => by obtain rfl := List.mem_singleton.1 hb; exact ⟨ha, fun k hk => .inr (hn k hk)⟩, List.pairwise_singleton _ _⟩
/-- One's own from the beginning. -/
theorem Mod.own {L : List As} (h : ∀ a ∈ L, a.I w) (hd : L.Pairwise fun a b => ∀ k, a.S k → b.S k → False) : Mod w w (fun k => ∃ a ∈ L, a.S k) L :=
  ⟨rfl, rfl, rfl, Nat.le_refl _, fun _ _ _ => rfl, fun a ha => ⟨h a ha, fun k hk => .inl ⟨a, ha, hk⟩⟩, hd⟩
theorem Mod.own1 {a : As} (h : a.I w) : Mod w w a.S [a] :=
  ⟨rfl, rfl, rfl, Nat.le_refl _, fun _ _ _ => rfl, fun b hb => by obtain rfl := List.mem_singleton.1 hb; exact ⟨h, fun k hk => .inl hk⟩, List.pairwise_singleton _ _⟩
/-- A choice of the assertions, by their places. -/
theorem Mod.sel (h : Mod w W S L) (is : List Nat) (hn : is.Nodup) : Mod w W S (is.filterMap (L[·]?)) := by
  refine ⟨h.os, h.tape, h.output, h.size, h.block, fun a ha => ?_, ?_⟩
  · obtain ⟨i, _, hi⟩ := List.mem_filterMap.1 ha
    exact h.all a (List.mem_of_getElem? hi)
  · rw [List.pairwise_filterMap]
    refine hn.imp ?_
    intro i j hij a ha b hb
    have hd := List.pairwise_iff_getElem.1 h.dis
    obtain ⟨hi, rfl⟩ := List.getElem?_eq_some_iff.1 ha
    obtain ⟨hj, rfl⟩ := List.getElem?_eq_some_iff.1 hb
    rcases Nat.lt_or_gt_of_ne hij with h1 | h1
    · exact hd i j hi hj h1
    · exact fun k h2 h3 => hd j i hj hi h1 k h3 h2
/-- A step that changes the blocks of A0 and makes new ones. -/
theorem Mod.step {A0 : List As} (h : Mod w W S (A0 ++ R)) (k : Mod W W1 S1 A) (hS : ∀ j, S1 j → ∃ a ∈ A0, a.S j) : Mod w W1 S (A ++ R) := by
  obtain ⟨hd1, hd2, hd3⟩ := List.pairwise_append.1 h.dis
  have far : ∀ a ∈ R, ∀ j, a.S j → j < W.heap.size ∧ ¬ S1 j := fun a ha j hj => by
    refine ⟨a.lt (h.all a (List.mem_append_right _ ha)).1 j hj, fun h1 => ?_⟩
    obtain ⟨b, hb, hbj⟩ := hS j h1
    exact hd3 b hb a ha j hbj hj
  have own : ∀ j, S1 j → S j ∨ w.heap.size ≤ j := fun j h1 => by
    obtain ⟨b, hb, hbj⟩ := hS j h1
    exact (h.all b (List.mem_append_left _ hb)).2 j hbj
  refine ⟨k.os.trans h.os, k.tape.trans h.tape, k.output.trans h.output, Nat.le_trans h.size k.size, fun j hj hs => ?_, fun a ha => ?_, ?_⟩
  · have h2 : ¬ S1 j := fun h1 => (own j h1).elim hs (fun h3 => by omega)
    exact (k.block j (Nat.lt_of_lt_of_le hj h.size) h2).trans (h.block j hj hs)
  · rcases List.mem_append.1 ha with ha | ha
    · obtain ⟨h1, h2⟩ := k.all a ha
      exact ⟨h1, fun j hj => (h2 j hj).elim (own j) (fun h3 => .inr (Nat.le_trans h.size h3))⟩
    · obtain ⟨h1, h2⟩ := h.all a (List.mem_append_right _ ha)
      exact ⟨a.mv (fun j hj => k.block j (far a ha j hj).1 (far a ha j hj).2) h1, h2⟩
  · refine List.pairwise_append.2 ⟨k.dis, hd2, fun a ha b hb j h1 h2 => ?_⟩
    obtain ⟨f1, f2⟩ := far b hb j h2
    exact ((k.all a ha).2 j h1).elim f2 (fun h3 => by omega)
/-- A step that only makes new blocks. -/
theorem Mod.new (h : Mod w W S L) (k : Sep W W1 A) : Mod w W1 S (A ++ L) := Mod.step (A0 := []) h k (fun _ h => h.elim)
theorem Mod.call (h : Mod w W S L) (k : Below W.heap.size W W1) : Mod w W1 S L := h.new (.of k)
theorem Mod.drew (h : Mod w W S L) : Mod w W.drew S L := h.call (below_drew (Below.refl _ _))
/-- The assertion at place i turns into another one on the same blocks. -/
theorem Mod.turn (h : Mod w W S L) {i : Nat} {a a' : As} (hi : L[i]? = some a) (k : Mod W W1 a.S [a']) (hs : ∀ j, a'.S j → a.S j ∨ W.heap.size ≤ j) : Mod w W1 S (L.set i a') := by
  obtain ⟨hi1, hi2⟩ := List.getElem?_eq_some_iff.1 hi
  have hall := List.pairwise_iff_getElem.1 h.dis
  have hI := fun j (hj : j < L.length) => h.all L[j] (List.getElem_mem hj)
  have far : ∀ j (hj : j < L.length), j ≠ i → ∀ q, L[j].S q → q < W.heap.size ∧ ¬ a.S q := fun j hj hne q hq => by
    refine ⟨L[j].lt (hI j hj).1 q hq, fun h1 => ?_⟩
    rw [← hi2] at h1
    rcases Nat.lt_or_gt_of_ne hne with h2 | h2
    · exact hall j i hj hi1 h2 q hq h1
    · exact hall i j hi1 hj h2 q h1 hq
  have own : ∀ j, a.S j → S j ∨ w.heap.size ≤ j := by rw [← hi2]; exact (hI i hi1).2
  refine ⟨k.os.trans h.os, k.tape.trans h.tape, k.output.trans h.output, Nat.le_trans h.size k.size, fun j hj hs => ?_, fun b hb => ?_, ?_⟩
  · have h2 : ¬ a.S j := fun h1 => (own j h1).elim hs (fun h3 => by omega)
    exact (k.block j (Nat.lt_of_lt_of_le hj h.size) h2).trans (h.block j hj hs)
  · obtain ⟨j, hj, rfl⟩ := List.getElem_of_mem hb
    rw [List.length_set] at hj
    by_cases hji : i = j
    · subst hji
      rw [List.getElem_set_self]
      obtain ⟨h1, h2⟩ := k.all a' (List.mem_singleton.2 rfl)
      exact ⟨h1, fun q hq => (h2 q hq).elim (own q) (fun h3 => .inr (Nat.le_trans h.size h3))⟩
    · rw [List.getElem_set_ne hji]
      exact ⟨L[j].mv (fun q hq => k.block q (far j hj (Ne.symm hji) q hq).1 (far j hj (Ne.symm hji) q hq).2) (hI j hj).1, (hI j hj).2⟩
  · refine List.pairwise_iff_getElem.2 fun x y hx hy hxy q h1 h2 => ?_
    rw [List.length_set] at hx hy
    rw [List.getElem_set] at h1 h2
    split at h1
    · rename_i e1
      split at h2
      · omega
      · rename_i e2
        obtain ⟨f1, f2⟩ := far y hy (Ne.symm e2) q h2
        exact (hs q h1).elim f2 (fun h3 => by omega)
    · rename_i e1
      split at h2
      · obtain ⟨f1, f2⟩ := far x hx (Ne.symm e1) q h1
        exact (hs q h2).elim f2 (fun h3 => by omega)
      · exact hall x y hx hy hxy q h1 h2
theorem Mod.at (h : Mod w W S L) {i : Nat} {a : As} (hi : L[i]? = some a) : a.I W := (h.all a (List.mem_of_getElem? hi)).1
theorem Mod.rowAt {α : Type} {d : Kd α} {hE : d.E = []} {e : Nat} {v : Value} {xs : List α} (h : Mod w W S L) (i : Nat) (hi : L[i]? = some (rw' d hE e v xs)) : d.R e W 0 (fun _ => True) v xs := h.at hi
theorem Mod.reads {α : Type} {d : Kd α} {hE : d.E = []} {e n c : Nat} {A : Option Addr} {xs : List α} (h : Mod w W S L) (i : Nat) (hi : L[i]? = some (rw' d hE e (.slice A n c) xs)) : d.C W A xs.length xs := (Kd.R_reads' (h.rowAt i hi)).2.2
theorem Mod.cap {α : Type} {d : Kd α} {hE : d.E = []} {e n c : Nat} {A : Option Addr} {xs : List α} (h : Mod w W S L) (i : Nat) (hi : L[i]? = some (rw' d hE e (.slice A n c) xs)) : n ≤ c := (Kd.R_reads' (h.rowAt i hi)).2.1
/-- An empty row has no block. -/
theorem Mod.nil {α : Type} {d : Kd α} {hE : d.E = []} {e : Nat} (h : Mod w W S L) : Mod w W S (rw' d hE e (.slice none ([] : List α).length 0) [] :: L) :=
  h.new (A := [rw' d hE e (.slice none ([] : List α).length 0) []]) ⟨rfl, rfl, rfl, Nat.le_refl _, fun _ _ _ => rfl, fun b hb => by obtain rfl := List.mem_singleton.1 hb; exact ⟨Kd.R_nil _ _ _ _ _, fun k hk => by have hk' : (Value.slice none 0 0).ownBlock = some k := hk; simp [Value.ownBlock] at hk'⟩, List.pairwise_singleton _ _⟩
/-- A cell of an own block. -/
theorem Mod.c (h : Mod w W S L) (i j : Nat) {g t : Nat} {cs : Array Value} {v : Value} (hi : L[i]? = some (bx g t cs)) (hj : cs[j]? = some v) : W.cell? ⟨g, j, none⟩ = some v := (blk_cell (h.at hi) j).trans hj
theorem Mod.f (h : Mod w W S L) (i j : Nat) {g t : Nat} {cs : Array Value} (hi : L[i]? = some (bx g t cs)) : W.frozen? ⟨g, j, none⟩ = false := blk_frozen (h.at hi) j
/-- What is told of memory that was there before. -/
theorem Mod.old (h : Mod w W No L) {a : Addr} {v : Value} (hc : w.cell? a = some v) : W.cell? a = some v := (h.below.cell (World.block_lt_of_cell? w a hc)).trans hc
theorem Mod.oldI (h : Mod w W No L) {a : As} (ha : a.I w) : a.I W := a.mv (fun k hk => h.block k (a.lt ha k hk) id) ha
theorem Mod.oldC {α : Type} {d : Kd α} {A : Option Addr} {n : Nat} {xs : List α} (h : Mod w W No L) (hc : d.C w A n xs) : d.C W A n xs := Kd.C_below hc h.below
theorem bx_c {g t : Nat} {cs : Array Value} (h : (bx g t cs).I W) (j : Nat) {v : Value} (hj : cs[j]? = some v) : W.cell? ⟨g, j, none⟩ = some v := (blk_cell h j).trans hj
/-! ### events, as steps -/
section
variable {P : Program} {ops : Array Oper} {o : Oper} {a : Act} {Q : Exit → Act → World → Prop} {Kc : Act → World → Prop} {rest : List Oper}
/-- The step of an operation. -/
def Stp (P : Program) (ops : Array Oper) (Q : Exit → Act → World → Prop) (o : Oper) (a : Act) (W : World) (Kc : Act → World → Prop) : Prop := if Region.wanted o (yielded ops a.tmps) = true then Oper.wp P o a W Kc Q else Kc (a.put o.dst undef) W
theorem wpList_stp (h : ∀ K : Act → World → Prop, (∀ a w, wpList P ops Q rest a w → K a w) → Stp P ops Q o a W K) : wpList P ops Q (o :: rest) a W := wpList_step h
theorem stp_box (hw : Region.wanted o (yielded ops a.tmps) = true) {cs : Array Value} {t : TypeId} (HS : Aside0 (Mod w W S L))
    (hrun : (execOp a.eval o).run P W = .ok (.value (.pointer (some ⟨W.heap.size, 0, none⟩))) (W.alloc (.cells cs t (0, 0))))
    (h : ∀ g w1, w.heap.size ≤ g → Aside0 (Mod w w1 S (bx g t cs :: L)) → Kc (a.put o.dst (.pointer (some ⟨g, 0, none⟩))) w1) : Stp P ops Q o a W Kc := by
  unfold Stp
  rw [if_pos hw]
  unfold Oper.wp
  rw [hrun]
  exact h _ _ HS.out.size ⟨HS.out.new (A := [bx W.heap.size t cs]) (Sep.one (below_alloc (Below.refl _ _) _) (blk_new W _) (fun k hk => by rw [show k = W.heap.size from hk]; exact Nat.le_refl _))⟩
/-- What a store of the cells vs at place j leaves of cs. -/
def over (cs : Array Value) (j : Nat) (vs : List Value) : Array Value := (cs.toList.take j ++ vs ++ cs.toList.drop (j + vs.length)).toArray
theorem setRow_I {g t : Nat} {cs cs' : Array Value} (h : W.heap[g]? = some (.cells cs t (0, 0))) : (W.setRow g cs').heap[g]? = some (.cells cs' t (0, 0)) := setRow_heap W g cs cs' t (0, 0) h
theorem setRow_far (W : World) (g : Nat) (cs : Array Value) (k : Nat) (hk : k ≠ g) : (W.setRow g cs).heap[k]? = W.heap[k]? := by
  unfold World.setRow
  simp only [Array.getElem?_modify]
  rw [if_neg (fun e => hk e.symm)]
theorem setRow_mod {g t : Nat} {cs cs' : Array Value} (h : W.heap[g]? = some (.cells cs t (0, 0))) : Mod W (W.setRow g cs') (fun k => k = g) [bx g t cs'] :=
  ⟨rfl, rfl, rfl, by simp [World.setRow], fun k _ hk => setRow_far W g cs' k hk, fun b hb => by obtain rfl := List.mem_singleton.1 hb; exact ⟨setRow_I h, fun k hk => .inl hk⟩, List.pairwise_singleton _ _⟩
theorem run_store_at {ty : TypeId} {u : Value} {g j t : Nat} {cur : Array Value} (hg : W.heap[g]? = some (.cells cur t (0, 0))) (hi : (P.info? ty).map (·.size) = some u.cells.size) (hl : j + u.cells.size ≤ cur.size) (h1 : u.cells.toList.all (·.oneCell') = true) :
    (storeVar ty ⟨g, j, none⟩ u).run P W = .ok () (W.setRow g (over cur j u.cells.toList)) := by
  have := run_storeCells_at P g j t u.cells.toList 0 cur W hg (by simpa using hl) (fun v hv => List.all_eq_true.1 h1 v hv)
  cases hq : P.info? ty with
  | none => simp [hq] at hi
  | some i =>
    have hs : u.cells.size = i.size := by simp [hq] at hi; omega
    simp only [Nat.add_zero] at this
    simp [storeVar, sizeOf, typeInfo, hq, hs, this, over]
theorem run_op_store {ty : TypeId} {x y : Operand} {u : Value} {ad : Addr} (ho : o.op = .store ty x y) (hx : a.eval x = .pointer (some ad)) (hy : a.eval y = u) {w1 : World} (hr : (storeVar ty ad u).run P W = .ok () w1) : (execOp a.eval o).run P W = .ok .skip w1 := by
  unfold execOp
  simp only [ho, hx, hy, Instr.storeAt, Instr.sureAddr, Sem.run_bind, Sem.run_pure, Result.andThen_ok, hr]
theorem stp_skip (hw : Region.wanted o (yielded ops a.tmps) = true) (hN : o.dst = none) (hrun : (execOp a.eval o).run P W = .ok .skip W1) (h : Kc a W1) : Stp P ops Q o a W Kc := by
  unfold Stp
  rw [if_pos hw]
  unfold Oper.wp
  rw [hrun]
  show Kc (a.put o.dst undef) W1
  rw [hN]
  exact h
/-- A store into an own block. -/
theorem stp_set (hw : Region.wanted o (yielded ops a.tmps) = true) (hN : o.dst = none) {ty : TypeId} {x y : Operand} (ho : o.op = .store ty x y) (HS : Aside0 (Mod w W S L)) (i j : Nat) {g t : Nat} {cs cs' : Array Value} {u : Value}
    (hi : L[i]? = some (bx g t cs)) (hx : a.eval x = .pointer (some ⟨g, j, none⟩)) (hy : a.eval y = u) (hsz : (P.info? ty).map (·.size) = some u.cells.size) (hl : (decide (j + u.cells.size ≤ cs.size) && u.cells.toList.all (·.oneCell')) = true) (hc : over cs j u.cells.toList = cs')
    (h : ∀ w1, Aside0 (Mod w w1 S (L.set i (bx g t cs'))) → Kc a w1) : Stp P ops Q o a W Kc := by
  rw [Bool.and_eq_true, decide_eq_true_eq] at hl
  subst hc
  have hg := HS.out.at hi
  exact stp_skip hw hN (run_op_store ho hx hy (run_store_at hg hsz hl.1 hl.2)) (h _ ⟨HS.out.turn hi (setRow_mod hg) (fun k hk => .inl hk)⟩)
/-- Makes a value, and memory of which nothing is told. -/
theorem stp_value {N : Option Tmp} {v : Value} (hw : Region.wanted o (yielded ops a.tmps) = true) (hN : o.dst = N) (hrun : (execOp a.eval o).run P W = .ok (.value v) W1) (h : Kc (a.put N v) W1) : Stp P ops Q o a W Kc := by
  subst hN
  exact value_ hw rfl hrun h
section
variable {α : Type}
theorem row_turn {d : Kd α} {hE : d.E = []} {e : Nat} {v v1 : Value} {xs ys : List α} (h : Mod w W S L) {i : Nat} (hi : L[i]? = some (rw' d hE e v xs)) (hg : W.grownBy W1 v.ownBlock) (hR : d.R e W1 0 (fun _ => True) v1 ys) (hat : v1.ownBlock = v.ownBlock ∨ ∃ b, v1.ownBlock = some b ∧ W.heap.size ≤ b) : Mod w W1 S (L.set i (rw' d hE e v1 ys)) := by
  have hk : ∀ k, v1.ownBlock = some k → v.ownBlock = some k ∨ W.heap.size ≤ k := fun k hk => by
    rcases hat with e1 | ⟨b, e1, hb⟩
    · exact .inl (by rw [← e1]; exact hk)
    · rw [e1] at hk; injection hk with hk; exact .inr (by omega)
  exact h.turn hi ⟨hg.os, hg.tape, hg.output, hg.size, fun k h1 h2 => hg.block k h1 (fun e1 => h2 e1.symm), fun b hb => by obtain rfl := List.mem_singleton.1 hb; exact ⟨hR, hk⟩, List.pairwise_singleton _ _⟩ hk
/-- append of one element, whose literal has just been made, to an own row. -/
theorem stp_app (d : Kd α) (hE : d.E = []) (hw : Region.wanted o (yielded ops a.tmps) = true) (HS : Aside0 (Mod w W S L)) (i : Nat) {e : Nat} {v : Value} {xs : List α} (hi : L[i]? = some (rw' d hE e v xs)) (s x : Operand) (t e' : TypeId) (z : Value) (bytes : Nat)
    (ho : o.op = .call { callee := .builtin .append, args := #[s, x], argTypes := #[t, t] }) (ht : P.underlying t = some (.slice e)) (hinfo : (P.info? e).map (fun i => (i.zero, i.size, i.bytes)) = some (some z, d.sz, bytes)) (hz : (decide (z.cells.size = d.sz) && (decide (0 < d.sz) && decide (0 < bytes))) = true)
    (p : α) (cs : List Value) (hs : a.eval s = v) (hx : a.eval x = .slice (some ⟨W.heap.size, 0, none⟩) 1 1) (hp : ∀ W base ok, d.M W base ok p cs) (hl : (xs.length + 1) * bytes ≤ 140737488355328)
    (h : ∀ A c ys w1, Aside0 (ys = xs ++ [p]) → Aside0 (Mod w w1 S (L.set i (rw' d hE e (.slice A ys.length c) ys))) → Kc (a.put o.dst (.slice A ys.length c)) w1) : Stp P ops Q o a (W.alloc (.cells cs.toArray e)) Kc := by
  simp only [Bool.and_eq_true, decide_eq_true_eq] at hz
  refine Kd.R_append_step d (w0 := W) 0 hw s x t e z bytes ho ht hinfo hz.1 hz.2.1 hz.2.2 v xs p cs (fun _ => True) (fun _ => False) hs hx (hp _ _ _) (fun k hk => hk.elim) (fun _ _ => trivial) (HS.out.at hi) (Below.refl _ _) (Nat.zero_le _) hl ?_
  intro v1 w1 hR _ hg hat
  obtain ⟨A, c, rfl⟩ := Kd.R_slice hR
  exact h A c _ w1 ⟨rfl⟩ ⟨row_turn HS.out hi hg hR hat⟩
/-- append of a row that is read to an own row. -/
theorem stp_rows (d : Kd α) (hE : d.E = []) (hKM : ∀ W base ok x cs, d.K W x cs → d.M W base ok x cs) (hw : Region.wanted o (yielded ops a.tmps) = true) (HS : Aside0 (Mod w W S L)) (i : Nat) {e : Nat} {v : Value} {xs : List α} (hi : L[i]? = some (rw' d hE e v xs)) (s x : Operand) (t : TypeId) (z : Value) (bytes : Nat)
    (ho : o.op = .call { callee := .builtin .append, args := #[s, x], argTypes := #[t, t] }) (ht : P.underlying t = some (.slice e)) (hinfo : (P.info? e).map (fun i => (i.zero, i.size, i.bytes)) = some (some z, d.sz, bytes)) (hz : (decide (z.cells.size = d.sz) && (decide (0 < d.sz) && decide (0 < bytes))) = true)
    {A : Option Addr} {m c : Nat} (zs : List α) (hs : a.eval s = v) (hx : a.eval x = .slice A m c) (hr : d.C W A m zs) (hl : (xs.length + m) * bytes ≤ 140737488355328)
    (h : ∀ A c ys w1, Aside0 (ys = xs ++ zs) → Aside0 (Mod w w1 S (L.set i (rw' d hE e (.slice A ys.length c) ys))) → Kc (a.put o.dst (.slice A ys.length c)) w1) : Stp P ops Q o a W Kc := by
  simp only [Bool.and_eq_true, decide_eq_true_eq] at hz
  refine Kd.R_append_rows_step d (w0 := W) 0 hw s x t e z bytes ho ht hinfo hz.1 hz.2.1 hz.2.2 v xs zs A m c (fun _ => True) (fun _ => False) hs hx (HS.out.at hi) hr (fun x cs hk => hKM _ _ _ x cs hk) (fun k hk => hk.elim) (fun _ _ => trivial) (Below.refl _ _) (Nat.zero_le _) hl ?_
  intro v1 w1 hR _ hg hat
  obtain ⟨A, c, rfl⟩ := Kd.R_slice hR
  exact h A c _ w1 ⟨rfl⟩ ⟨row_turn HS.out hi hg hR hat⟩
/-- A literal slice. -/
theorem stp_lit (d : Kd α) (hE : d.E = []) (e : Nat) (hw : Region.wanted o (yielded ops a.tmps) = true) (HS : Aside0 (Mod w W S L)) {xs : List α} {inner : List Value}
    (hrun : (execOp a.eval o).run P W = .ok (.value (.slice (some ⟨W.heap.size, 0, none⟩) xs.length xs.length)) (W.alloc (.cells inner.toArray e))) (hrep : ∀ W base ok, Reps (d.M W base ok) d.sz xs inner) (hm : xs.length ≤ 9223372036854775807)
    (h : ∀ A c w1, Aside0 (Mod w w1 S (rw' d hE e (.slice A xs.length c) xs :: L)) → Kc (a.put o.dst (.slice A xs.length c)) w1) : Stp P ops Q o a W Kc := by
  have hR : d.R e (W.alloc (.cells inner.toArray e)) 0 (fun _ => True) (.slice (some ⟨W.heap.size, 0, none⟩) xs.length xs.length) xs := by
    refine ⟨fun _ _ => trivial, inner, ?_, hrep _ _ _⟩
    have h2 := World.ownsRow_lit (base := 0) (e := e) (size := d.sz) W inner.toArray xs.length (Nat.zero_le _) (by simpa [maxLen] using hm) (by simpa using (hrep W 0 (fun _ => True)).1)
    simpa using h2
  unfold Stp
  rw [if_pos hw]
  unfold Oper.wp
  rw [hrun]
  exact h _ _ _ ⟨HS.out.new (A := [rw' d hE e _ xs]) (Sep.one (below_alloc (Below.refl _ _) _) hR (fun k hk => by
    have hk' : (Value.slice (some ⟨W.heap.size, 0, none⟩) xs.length xs.length).ownBlock = some k := hk
    simp only [Value.ownBlock, Option.some.injEq] at hk'
    omega))⟩
end
end
end Go.Proofs.Ytibjkjhpfmmjoaa.H
namespace Go.Proofs.Ytibjkjhpfmmjoaa.H
open Go.RowKit Go.Proofs.YtibjkjhpfmmjoaaW.PrintWords Go.Proofs.YtibjkjhpfmmjoaaW.PrintLast Go.Proofs.YtibjkjhpfmmjoaaW.PrintMore Go.Proofs.Ytibjkjhpfmmjoaa.M
set_option linter.unusedVariables false
set_option linter.unusedSimpArgs false
/-- A plan: p reckons, t reads under S, e calls or makes or writes, d is a last one; two, three: each of several orders. -/
inductive Plan where
  | done
  | p (i : Nat) (r : Plan)
  | t (i : Nat) (r : Plan)
  | e (i : Nat) (r : Plan)
  | d (i : Nat) (r : Plan)
  | two (i j : Nat) (r s : Plan)
  | three (i j k : Nat) (r s u : Plan)
def Plan.depth : Plan → Nat
  | .done => 0
  | .p _ r => r.depth + 1
  | .t _ r => r.depth + 1
  | .e _ r => r.depth + 1
  | .d _ r => r.depth + 1
  | .two _ _ r s => max r.depth s.depth + 1
  | .three _ _ _ r s u => max r.depth (max s.depth u.depth) + 1
section
variable (P : Program) (md : Region.Mode) (ops : Array Oper) (Q : Exit → Act → World → Prop) (S : World → Prop) (ds : List Nat)
/-- The plan fits the statement. -/
def Plan.fits : Plan → Array Bool → Bool
  | .done, l => Region.ready md ops l == []
  | .p i r, l => anyB md ops l (l.setIfInBounds i true) i && r.fits (l.setIfInBounds i true)
  | .t i r, l => takeB md ops ds l (l.setIfInBounds i true) i && r.fits (l.setIfInBounds i true)
  | .e i r, l => readyB md ops l (l.setIfInBounds i true) i && (!ds.contains i && r.fits (l.setIfInBounds i true))
  | .d i r, l => readyB md ops l (l.setIfInBounds i true) i && (ds.contains i && r.fits (l.setIfInBounds i true))
  | .two i j r s, l => (Region.ready md ops l == [i, j] && l.setIfInBounds i true == l.setIfInBounds i true && l.setIfInBounds j true == l.setIfInBounds j true) && ((!ds.contains i && !ds.contains j) && (r.fits (l.setIfInBounds i true) && s.fits (l.setIfInBounds j true)))
  | .three i j k r s u, l => (Region.ready md ops l == [i, j, k] && l.setIfInBounds i true == l.setIfInBounds i true && l.setIfInBounds j true == l.setIfInBounds j true && l.setIfInBounds k true == l.setIfInBounds k true) && ((!ds.contains i && (!ds.contains j && !ds.contains k)) && (r.fits (l.setIfInBounds i true) && (s.fits (l.setIfInBounds j true) && u.fits (l.setIfInBounds k true))))
/-- One operation of the plan. -/
def OpAt (i : Nat) (K : Oper → Prop) : Prop := ∀ o, ops[i]? = some o → K o
/-- An operation is run, S is shown behind it. -/
def RunE (i : Nat) (a : Act) (w : World) (r : Act → World → Prop) : Prop := OpAt ops i fun o => ∀ K : Act → World → Prop, Shut (∀ a' w', S w' → (S w' → r a' w') → K a' w') → Stp P ops Q o a w K
def RunD (i : Nat) (a : Act) (w : World) (r : Act → World → Prop) : Prop := OpAt ops i fun o => ∀ K : Act → World → Prop, Shut (∀ a' w', r a' w' → K a' w') → Stp P ops Q o a w K
/-- The plan's walk. -/
def Plan.run : Plan → Act → World → Prop
  | .done, a, w => Q .normal a w
  | .p i r, a, w => OpAt ops i fun o => ∃ v, Yields P ops o v a ∧ Plan.run r (a.put o.dst v) w
  | .t i r, a, w => OpAt ops i fun o => ∃ v, YieldsIf P ops S o v a ∧ S w ∧ Plan.run r (a.put o.dst v) w
  | .e i r, a, w => RunE P ops Q S i a w (Plan.run r)
  | .d i r, a, w => RunD P ops Q i a w (Plan.run r)
  | .two i j r s, a, w => RunE P ops Q S i a w (Plan.run r) ∧ RunE P ops Q S j a w (Plan.run s)
  | .three i j k r s u, a, w => RunE P ops Q S i a w (Plan.run r) ∧ RunE P ops Q S j a w (Plan.run s) ∧ RunE P ops Q S k a w (Plan.run u)
end
section
variable {P : Program} {md : Region.Mode} {ops : Array Oper} {Q : Exit → Act → World → Prop} {S : World → Prop} {ds : List Nat}
theorem ready_ops {i : Nat} {l : Array Bool} (h : i ∈ Region.ready md ops l) : ∃ o, ops[i]? = some o := by
  obtain ⟨_, o, ho, _⟩ := mem_ready.1 h
  exact ⟨o, ho⟩
theorem ready_any {i : Nat} {l l' : Array Bool} (h : anyB md ops l l' i = true) : ∃ o, ops[i]? = some o := by
  simp only [anyB, Bool.and_eq_true] at h
  exact ready_ops (by simpa using h.1.2)
theorem ready_take {i : Nat} {l l' : Array Bool} (h : takeB md ops ds l l' i = true) : ∃ o, ops[i]? = some o := by
  simp only [takeB, Bool.and_eq_true] at h
  exact ready_ops (by simpa using h.1.1.1.2)
theorem ready_one {i : Nat} {l l' : Array Bool} (h : readyB md ops l l' i = true) : ∃ o, ops[i]? = some o := by
  simp only [readyB, Bool.and_eq_true, beq_iff_eq] at h
  exact ready_ops (by rw [h.1]; exact List.mem_singleton.2 rfl)
theorem Plan.sound (hQ : ∀ c (a : Act) (d : Option Tmp) (v : Value) (w : World), Q (.panic c) (a.put d v) w → Q (.panic c) a w) (p : Plan) :
    ∀ (l : Array Bool) (fuel : Nat) (a : Act) (w : World), p.fits md ops ds l = true → p.depth ≤ fuel → p.run P ops Q S a w → wpAnyLast P md ops Q S ds fuel l a w := by
  have toE : ∀ {r : Plan} {i : Nat} {o : Oper} {l' : Array Bool} {f : Nat} {a : Act} {w : World} (ih : ∀ (l : Array Bool) (fuel : Nat) (a : Act) (w : World), r.fits md ops ds l = true → r.depth ≤ fuel → r.run P ops Q S a w → wpAnyLast P md ops Q S ds fuel l a w)
      (hf : r.fits md ops ds l' = true) (hd : r.depth ≤ f) (ho : ops[i]? = some o) (hr : RunE P ops Q S i a w (r.run P ops Q S)) (K : Act → World → Prop) (hK : Shut (∀ a' w', S w' → (S w' → wpAnyLast P md ops Q S ds f l' a' w') → K a' w')),
      if Region.wanted o (yielded ops a.tmps) = true then Oper.wp P o a w K Q else K (a.put o.dst undef) w := fun ih hf hd ho hr K hK => hr _ ho K (fun a' w' hS h => hK.out a' w' hS (fun hs => ih _ _ _ _ hf hd (h hs)))
  induction p with
  | done => exact fun l fuel a w hf _ hr => done_ hf hr
  | p i r ih =>
    intro l fuel a w hf hd hr
    simp only [Plan.fits, Bool.and_eq_true] at hf
    obtain ⟨f, rfl⟩ : ∃ f, fuel = f + 1 := ⟨fuel - 1, by simp only [Plan.depth] at hd; omega⟩
    obtain ⟨o, ho⟩ := ready_any hf.1
    obtain ⟨v, hy, hrun⟩ := hr o ho
    exact pure_ _ ho rfl hf.1 (fun c a w => hQ c a o.dst v w) hy rfl (ih _ _ _ _ hf.2 (by simp only [Plan.depth] at hd; omega) hrun)
  | t i r ih =>
    intro l fuel a w hf hd hr
    simp only [Plan.fits, Bool.and_eq_true] at hf
    obtain ⟨f, rfl⟩ : ∃ f, fuel = f + 1 := ⟨fuel - 1, by simp only [Plan.depth] at hd; omega⟩
    obtain ⟨o, ho⟩ := ready_take hf.1
    obtain ⟨v, hy, hS, hrun⟩ := hr o ho
    exact take_ _ ho rfl hf.1 (fun c a w => hQ c a o.dst v w) hy hS rfl (ih _ _ _ _ hf.2 (by simp only [Plan.depth] at hd; omega) hrun)
  | e i r ih =>
    intro l fuel a w hf hd hr
    simp only [Plan.fits, Bool.and_eq_true, Bool.not_eq_true', List.contains_eq_mem, decide_eq_false_iff_not] at hf
    obtain ⟨f, rfl⟩ : ∃ f, fuel = f + 1 := ⟨fuel - 1, by simp only [Plan.depth] at hd; omega⟩
    obtain ⟨o, ho⟩ := ready_one hf.1
    exact one_ _ ho rfl hf.1 hf.2.1 (toE ih hf.2.2 (by simp only [Plan.depth] at hd; omega) ho hr)
  | d i r ih =>
    intro l fuel a w hf hd hr
    simp only [Plan.fits, Bool.and_eq_true, List.contains_eq_mem, decide_eq_true_eq] at hf
    obtain ⟨f, rfl⟩ : ∃ f, fuel = f + 1 := ⟨fuel - 1, by simp only [Plan.depth] at hd; omega⟩
    obtain ⟨o, ho⟩ := ready_one hf.1
    exact last_ _ ho rfl hf.1 hf.2.1 (fun K hK => hr _ ho K (fun a' w' h => hK.out a' w' (ih _ _ _ _ hf.2.2 (by simp only [Plan.depth] at hd; omega) h)))
  | two i j r s ihr ihs =>
    intro l fuel a w hf hd hr
    simp only [Plan.fits] at hf
    rw [Bool.and_eq_true] at hf
    obtain ⟨h0, hf⟩ := hf
    simp only [Bool.and_eq_true, Bool.not_eq_true', List.contains_eq_mem, decide_eq_false_iff_not] at hf
    simp only [Plan.depth] at hd
    obtain ⟨f, rfl⟩ : ∃ f, fuel = f + 1 := ⟨fuel - 1, by omega⟩
    have hrd : Region.ready md ops l = [i, j] := by
      simp only [Bool.and_eq_true, beq_iff_eq] at h0
      exact h0.1.1
    obtain ⟨o, ho⟩ := ready_ops (i := i) (l := l) (md := md) (ops := ops) (by rw [hrd]; simp)
    obtain ⟨o', ho'⟩ := ready_ops (i := j) (l := l) (md := md) (ops := ops) (by rw [hrd]; simp)
    exact two_ _ _ ho ho' rfl rfl h0 hf.1.1 hf.1.2 (toE ihr hf.2.1 (by omega) ho hr.1) (toE ihs hf.2.2 (by omega) ho' hr.2)
  | three i j k r s u ihr ihs ihu =>
    intro l fuel a w hf hd hr
    simp only [Plan.fits] at hf
    rw [Bool.and_eq_true] at hf
    obtain ⟨h0, hf⟩ := hf
    simp only [Bool.and_eq_true, Bool.not_eq_true', List.contains_eq_mem, decide_eq_false_iff_not] at hf
    simp only [Plan.depth] at hd
    obtain ⟨f, rfl⟩ : ∃ f, fuel = f + 1 := ⟨fuel - 1, by omega⟩
    have hrd : Region.ready md ops l = [i, j, k] := by
      simp only [Bool.and_eq_true, beq_iff_eq] at h0
      exact h0.1.1.1
    obtain ⟨o, ho⟩ := ready_ops (i := i) (l := l) (md := md) (ops := ops) (by rw [hrd]; simp)
    obtain ⟨o', ho'⟩ := ready_ops (i := j) (l := l) (md := md) (ops := ops) (by rw [hrd]; simp)
    obtain ⟨o'', ho''⟩ := ready_ops (i := k) (l := l) (md := md) (ops := ops) (by rw [hrd]; simp)
    exact three_ _ _ _ ho ho' ho'' rfl rfl rfl h0 hf.1.1 hf.1.2.1 hf.1.2.2 (toE ihr hf.2.1 (by omega) ho hr.1) (toE ihs hf.2.2.1 (by omega) ho' hr.2.1) (toE ihu hf.2.2.2 (by omega) ho'' hr.2.2)
theorem plan_start {id : Nat} {a : Act} {w : World} (p : Plan) (S : World → Prop) (ds : List Nat) (hm : P.follows .mixedOrders = true) (hf : (Nat.ble p.depth ops.size && p.fits .any ops ds (Array.replicate ops.size false)) = true)
    (hQ : ∀ c (a : Act) (d : Option Tmp) (v : Value) (w : World), Q (.panic c) (a.put d v) w → Q (.panic c) a w) (hS : S w.drew) (h : S w.drew → p.run P ops Q S a w.drew) : (Code.region id ops true).wp P Q a w := by
  rw [Bool.and_eq_true] at hf
  exact wp_region_last_drew hm hS (fun hs => Plan.sound hQ p _ _ _ _ hf.2 (Nat.le_of_ble_eq_true hf.1) (h hs))
theorem gate_p {i : Nat} {r : Plan} {a : Act} {w : World} (h : (Plan.p i r).run P ops Q S a w) : (Plan.p i r).run P ops Q S a w := h
theorem gate_t {i : Nat} {r : Plan} {a : Act} {w : World} (h : (Plan.t i r).run P ops Q S a w) : (Plan.t i r).run P ops Q S a w := h
theorem run_p {i : Nat} {r : Plan} {N : Option Tmp} {o : Oper} {v : Value} {a : Act} {w : World} (ho : ops.toList[i]? = some o) (hN : o.dst = N) (hy : Yields P ops o v a) {a' : Act} (ha : a.put N v = a') (h : r.run P ops Q S a' w) : (Plan.p i r).run P ops Q S a w := by
  intro o' ho'
  rw [Array.getElem?_toList] at ho
  obtain rfl := Option.some.inj (ho.symm.trans ho')
  subst hN ha
  exact ⟨v, hy, h⟩
theorem run_t {i : Nat} {r : Plan} {N : Option Tmp} {o : Oper} {v : Value} {a : Act} {w : World} (ho : ops.toList[i]? = some o) (hN : o.dst = N) (hS : S w) (hy : YieldsIf P ops S o v a) {a' : Act} (ha : a.put N v = a') (h : r.run P ops Q S a' w) : (Plan.t i r).run P ops Q S a w := by
  intro o' ho'
  rw [Array.getElem?_toList] at ho
  obtain rfl := Option.some.inj (ho.symm.trans ho')
  subst hN ha
  exact ⟨v, hy, hS, h⟩
theorem run_e {i : Nat} {r : Plan} {o : Oper} {a : Act} {w : World} (ho : ops.toList[i]? = some o) (h : ∀ K : Act → World → Prop, Shut (∀ a' w', S w' → (S w' → r.run P ops Q S a' w') → K a' w') → Stp P ops Q o a w K) : (Plan.e i r).run P ops Q S a w := by
  intro o' ho'
  rw [Array.getElem?_toList] at ho
  obtain rfl := Option.some.inj (ho.symm.trans ho')
  exact h
theorem run_d {i : Nat} {r : Plan} {o : Oper} {a : Act} {w : World} (ho : ops.toList[i]? = some o) (h : ∀ K : Act → World → Prop, Shut (∀ a' w', r.run P ops Q S a' w' → K a' w') → Stp P ops Q o a w K) : (Plan.d i r).run P ops Q S a w := by
  intro o' ho'
  rw [Array.getElem?_toList] at ho
  obtain rfl := Option.some.inj (ho.symm.trans ho')
  exact h
theorem run_two {i j : Nat} {r s : Plan} {a : Act} {w : World} (h1 : (Plan.e i r).run P ops Q S a w) (h2 : (Plan.e j s).run P ops Q S a w) : (Plan.two i j r s).run P ops Q S a w := ⟨h1, h2⟩
theorem run_three {i j k : Nat} {r s u : Plan} {a : Act} {w : World} (h1 : (Plan.e i r).run P ops Q S a w) (h2 : (Plan.e j s).run P ops Q S a w) (h3 : (Plan.e k u).run P ops Q S a w) : (Plan.three i j k r s u).run P ops Q S a w := ⟨h1, h2, h3⟩
theorem run_done {a : Act} {w : World} (h : Q .normal a w) : Plan.done.run P ops Q S a w := h
theorem goE {r : Act → World → Prop} {K : Act → World → Prop} (hK : Shut (∀ a' w', S w' → (S w' → r a' w') → K a' w')) {a : Act} {w : World} (hS : S w) {a' : Act} (ha : a = a') (h : S w → r a' w) : K a w := by
  subst ha
  exact hK.out _ _ hS h
theorem goD {r : Act → World → Prop} {K : Act → World → Prop} (hK : Shut (∀ a' w', r a' w' → K a' w')) {a : Act} {w : World} {a' : Act} (ha : a = a') (h : r a' w) : K a w := by
  subst ha
  exact hK.out _ _ h
/-- What a region leaves, told once. -/
def Told (Q : Exit → Act → World → Prop) (T : Act → World → Prop) : Exit → Act → World → Prop
  | .normal, a, w => T a w
  | e, a, w => Q e a w
theorem region_told {id : Nat} {b : Bool} {a : Act} {w : World} (T : Act → World → Prop) (h1 : (Code.region id ops b).wp P (Told Q T) a w) (h2 : ∀ a' w', T a' w' → Q .normal a' w') : (Code.region id ops b).wp P Q a w :=
  Code.wp_mono (fun e a w h => by cases e <;> first | exact h2 _ _ h | exact h) h1
end
end Go.Proofs.Ytibjkjhpfmmjoaa.H
namespace Go.Proofs.Ytibjkjhpfmmjoaa.H
open Go.RowKit Go.Proofs.YtibjkjhpfmmjoaaW.PrintWords Go.Proofs.YtibjkjhpfmmjoaaW.PrintLast Go.Proofs.YtibjkjhpfmmjoaaW.PrintMore Go.Proofs.Ytibjkjhpfmmjoaa.M
set_option linter.unusedVariables false
set_option linter.unusedSimpArgs false
section
variable {P : Program} {md : Region.Mode} {ops : Array Oper} {Q : Exit → Act → World → Prop} {S : World → Prop} {ds : List Nat}
theorem rp {i : Nat} {r : Plan} {N : Option Tmp} {o : Oper} {v : Value} {a a' : Act} {w : World} (ho : ops.toList[i]? = some o) (hN : o.dst = N) (h : r.run P ops Q S a' w) (hw : Region.wanted o (yielded ops a.tmps) = true := by rfl)
    (hy : ∀ w', (execOp a.eval o).run P w' = .ok (.value v) w' := by intro w'; first | (go_simp; with_reducible rfl) | (go_simp; done))
    (ha : a.put N v = a' := by first | (simp only [Act.put, List.setIfInBounds_toArray, List.set_cons_zero, List.set_cons_succ, i64_w, i32_w]; rfl) | simp only [Act.put, List.setIfInBounds_toArray, List.set_cons_zero, List.set_cons_succ, i64_w, i32_w]) : (Plan.p i r).run P ops Q S a w := run_p ho hN (Or.inl ⟨hw, hy⟩) ha h
theorem rp0 {i : Nat} {r : Plan} {N : Option Tmp} {o : Oper} {a a' : Act} {w : World} (ho : ops.toList[i]? = some o) (hN : o.dst = N) (h : r.run P ops Q S a' w) (hw : Region.wanted o (yielded ops a.tmps) = false := by rfl)
    (ha : a.put N undef = a' := by first | (simp only [Act.put, List.setIfInBounds_toArray, List.set_cons_zero, List.set_cons_succ, i64_w, i32_w]; rfl) | simp only [Act.put, List.setIfInBounds_toArray, List.set_cons_zero, List.set_cons_succ, i64_w, i32_w]) : (Plan.p i r).run P ops Q S a w := run_p ho hN (Or.inr ⟨hw, rfl⟩) ha h
theorem rt {i : Nat} {r : Plan} {N : Option Tmp} {o : Oper} {v : Value} {a a' : Act} {w : World} (ho : ops.toList[i]? = some o) (hN : o.dst = N) (hS : S w) (h : r.run P ops Q S a' w) (hw : Region.wanted o (yielded ops a.tmps) = true := by rfl)
    (hy : ∀ w', S w' → (execOp a.eval o).run P w' = .ok (.value v) w' := by intro w' hS_; first | (go_simp; with_reducible rfl) | (go_simp; done))
    (ha : a.put N v = a' := by first | (simp only [Act.put, List.setIfInBounds_toArray, List.set_cons_zero, List.set_cons_succ, i64_w, i32_w]; rfl) | simp only [Act.put, List.setIfInBounds_toArray, List.set_cons_zero, List.set_cons_succ, i64_w, i32_w]) : (Plan.t i r).run P ops Q S a w := run_t ho hN hS (Or.inl ⟨hw, hy⟩) ha h
theorem ge {r : Act → World → Prop} {K : Act → World → Prop} (hK : Shut (∀ a' w', S w' → (S w' → r a' w') → K a' w')) {a a' : Act} {w : World} (hS : S w) (h : S w → r a' w)
    (ha : a = a' := by first | (simp only [Act.put, List.setIfInBounds_toArray, List.set_cons_zero, List.set_cons_succ, i64_w, i32_w]; rfl) | simp only [Act.put, List.setIfInBounds_toArray, List.set_cons_zero, List.set_cons_succ, i64_w, i32_w]) : K a w := goE hK hS ha h
theorem gd {r : Act → World → Prop} {K : Act → World → Prop} (hK : Shut (∀ a' w', r a' w' → K a' w')) {a a' : Act} {w : World} (h : r a' w)
    (ha : a = a' := by first | (simp only [Act.put, List.setIfInBounds_toArray, List.set_cons_zero, List.set_cons_succ, i64_w, i32_w]; rfl) | simp only [Act.put, List.setIfInBounds_toArray, List.set_cons_zero, List.set_cons_succ, i64_w, i32_w]) : K a w := goD hK ha h
theorem ps {id : Nat} {a : Act} {w : World} (p : Plan) (S : World → Prop) (ds : List Nat) (hS : S w.drew) (h : S w.drew → p.run P ops Q S a w.drew) (hm : P.follows .mixedOrders = true := by kernel_rfl) (hf : (Nat.ble p.depth ops.size && p.fits .any ops ds (Array.replicate ops.size false)) = true := by kernel_rfl)
    (hQ : ∀ c (a : Act) (d : Option Tmp) (v : Value) (w : World), Q (.panic c) (a.put d v) w → Q (.panic c) a w := by intro c_ a_ d_ v_ w_ h_; cases d_ <;> exact h_) : (Code.region id ops true).wp P Q a w := plan_start p S ds hm hf hQ hS h
/-- A call in a plan. -/
theorem gc {oi : Oper} {N : Option Tmp} {a : Act} {w : World} {K : Act → World → Prop} {f : FuncId} {fn : Func} {xs : Array Operand} {ts : Array TypeId} {args : Array Value} {R : Ending → World → Prop} (hf : P.funcs[f]? = some fn) (con : Calls P f args w R)
    (hN : oi.dst = N) (hop : oi.op = .call { callee := .value (.func f), args := xs, argTypes := ts }) (h : ∀ e w', R e w' → ∃ v, e = .returned v ∧ K (a.put N v) w')
    (hargs : xs.map a.eval = args := by simp only [List.map_toArray, List.map_cons, List.map_nil]; rfl) (hname : (fn.name == "runtime.NumGoroutine") = false := by kernel_rfl) (hb : fn.body.isSome = true := by rfl)
    (hw : Region.wanted oi (yielded ops a.tmps) = true := by rfl) : Stp P ops Q oi a w K := by
  subst hN
  exact goes_ hf hname hb args hw rfl hop hargs (con.mono h)
end
section
variable {P : Program} {ops : Array Oper} {o : Oper} {a : Act} {Q : Exit → Act → World → Prop} {Kc : Act → World → Prop} {rest : List Oper} {w W W1 : World} {S : Nat → Prop} {L : List As}
theorem sB (HS : Aside0 (Mod w W S L)) (hb : Below W.heap.size W W1) : Aside0 (Mod w W1 S L) := ⟨HS.out.call hb⟩
theorem sD (HS : Aside0 (Mod w W S L)) : Aside0 (Mod w W.drew S L) := ⟨HS.out.drew⟩
theorem sN1 {x : As} (HS : Aside0 (Mod w W S L)) (hs : Sep W W1 [x]) : Aside0 (Mod w W1 S (x :: L)) := ⟨HS.out.new hs⟩
theorem sN2 {x y : As} (HS : Aside0 (Mod w W S L)) (hs : Sep W W1 [x, y]) : Aside0 (Mod w W1 S (x :: y :: L)) := ⟨HS.out.new hs⟩
theorem sM1 {x y : As} (HS : Aside0 (Mod w W S L)) (i : Nat) (is : List Nat) (hi : L[i]? = some x) (hs : Mod W W1 x.S [y]) (hn : (i :: is).Nodup := by decide) : Aside0 (Mod w W1 S (y :: is.filterMap (L[·]?))) := by
  have h := HS.out.sel (i :: is) hn
  rw [List.filterMap_cons, hi] at h
  exact ⟨Mod.step (A0 := [x]) (R := is.filterMap (L[·]?)) h hs fun k hk => ⟨x, List.mem_cons_self, hk⟩⟩
theorem sM2 {x y x' y' : As} (HS : Aside0 (Mod w W S L)) (i j : Nat) (is : List Nat) (hi : L[i]? = some x) (hj : L[j]? = some y) (hs : Mod W W1 (fun k => x.S k ∨ y.S k) [x', y']) (hn : (i :: j :: is).Nodup := by decide) : Aside0 (Mod w W1 S (x' :: y' :: is.filterMap (L[·]?))) := by
  have h := HS.out.sel (i :: j :: is) hn
  rw [List.filterMap_cons, hi, List.filterMap_cons, hj] at h
  exact ⟨Mod.step (A0 := [x, y]) (R := is.filterMap (L[·]?)) h hs fun k hk => hk.elim (fun h => ⟨x, List.mem_cons_self, h⟩) (fun h => ⟨y, List.mem_cons_of_mem _ List.mem_cons_self, h⟩)⟩
theorem sX (HS : Aside0 (Mod w W S L)) (is : List Nat) (hn : is.Nodup := by decide) : Aside0 (Mod w W S (is.filterMap (L[·]?))) := ⟨HS.out.sel is hn⟩
theorem bx1 (t : TypeId) (cs : Array Value) (HS : Aside0 (Mod w W S L)) (h : ∀ g w1, w.heap.size ≤ g → Aside0 (Mod w w1 S (bx g t cs :: L)) → Kc (a.put o.dst (.pointer (some ⟨g, 0, none⟩))) w1)
    (hrun : (execOp a.eval o).run P W = .ok (.value (.pointer (some ⟨W.heap.size, 0, none⟩))) (W.alloc (.cells cs t (0, 0))) := by first | (go_simp; done) | (go_simp; rfl)) (hw : Region.wanted o (yielded ops a.tmps) = true := by rfl) : Stp P ops Q o a W Kc := stp_box hw HS hrun h
theorem bxL (t : TypeId) (cs : Array Value) (HS : Aside0 (Mod w W S L)) (h : ∀ g w1, w.heap.size ≤ g → Aside0 (Mod w w1 S (bx g t cs :: L)) → wpList P ops Q rest (a.put o.dst (.pointer (some ⟨g, 0, none⟩))) w1)
    (hrun : (execOp a.eval o).run P W = .ok (.value (.pointer (some ⟨W.heap.size, 0, none⟩))) (W.alloc (.cells cs t (0, 0))) := by first | (go_simp; done) | (go_simp; rfl)) (hw : Region.wanted o (yielded ops a.tmps) = true := by rfl) : wpList P ops Q (o :: rest) a W :=
  wpList_stp fun K hK => stp_box hw HS hrun fun g w1 hg hs => hK _ _ (h g w1 hg hs)
theorem st1 {ty : TypeId} {x y : Operand} {g t : Nat} {cs : Array Value} {u : Value} {L' : List As} (HS : Aside0 (Mod w W S L)) (i j : Nat) (cs' : Array Value) (hN : o.dst = none) (ho : o.op = .store ty x y) (hi : L[i]? = some (bx g t cs)) (hx : a.eval x = .pointer (some ⟨g, j, none⟩)) (hy : a.eval y = u)
    (h : ∀ w1, Aside0 (Mod w w1 S L') → Kc a w1) (hL : L.set i (bx g t cs') = L' := by simp only [List.set_cons_zero, List.set_cons_succ]; rfl) (hsz : (P.info? ty).map (·.size) = some u.cells.size := by kernel_rfl) (hl : (decide (j + u.cells.size ≤ cs.size) && u.cells.toList.all (·.oneCell')) = true := by rfl)
    (hc : over cs j u.cells.toList = cs' := by rfl) (hw : Region.wanted o (yielded ops a.tmps) = true := by rfl) : Stp P ops Q o a W Kc := by
  subst hL
  exact stp_set hw hN ho HS i j hi hx hy hsz hl hc h
theorem stL {ty : TypeId} {x y : Operand} {g t : Nat} {cs : Array Value} {u : Value} {L' : List As} (HS : Aside0 (Mod w W S L)) (i j : Nat) (cs' : Array Value) (hN : o.dst = none) (ho : o.op = .store ty x y) (hi : L[i]? = some (bx g t cs)) (hx : a.eval x = .pointer (some ⟨g, j, none⟩)) (hy : a.eval y = u)
    (h : ∀ w1, Aside0 (Mod w w1 S L') → wpList P ops Q rest a w1) (hL : L.set i (bx g t cs') = L' := by simp only [List.set_cons_zero, List.set_cons_succ]; rfl) (hsz : (P.info? ty).map (·.size) = some u.cells.size := by kernel_rfl) (hl : (decide (j + u.cells.size ≤ cs.size) && u.cells.toList.all (·.oneCell')) = true := by rfl)
    (hc : over cs j u.cells.toList = cs' := by rfl) (hw : Region.wanted o (yielded ops a.tmps) = true := by rfl) : wpList P ops Q (o :: rest) a W := by
  subst hL
  exact wpList_stp fun K hK => stp_set hw hN ho HS i j hi hx hy hsz hl hc fun w1 hs => hK _ _ (h w1 hs)
end
end Go.Proofs.Ytibjkjhpfmmjoaa.H
namespace Go.Proofs.Ytibjkjhpfmmjoaa.H
open Go.RowKit Go.Proofs.YtibjkjhpfmmjoaaW.PrintWords Go.Proofs.YtibjkjhpfmmjoaaW.PrintLast Go.Proofs.YtibjkjhpfmmjoaaW.PrintMore Go.Proofs.Ytibjkjhpfmmjoaa.M
set_option linter.unusedVariables false
set_option linter.unusedSimpArgs false
def zT : Tm := (⟨#[]⟩, 0, 0)
theorem tm_at {w : World} {A : Option Addr} {n : Nat} {l : Ts} (h : KT.C w A n l) (i : Nat) (hi : i < n) :
    ∃ ad, A = some ad ∧ w.cell? (ad.add (i * 3)) = some (.string (l.getD i zT).1) ∧ w.cell? ⟨(ad.add (i * 3)).block, (ad.add (i * 3)).off + 1, none⟩ = some (.int .i64 (l.getD i zT).2.1) ∧ w.cell? ⟨(ad.add (i * 3)).block, (ad.add (i * 3)).off + 2, none⟩ = some (.int .i64 (l.getD i zT).2.2) := by
  obtain ⟨ad, c, hA, hl, ⟨c0, c12, rfl, h0, c1, c2, rfl, h1, h2⟩, hc⟩ := Kd.C_get h zT (i : Int) (by omega) (by omega)
  simp only [Int.toNat_natCast] at hc h0 h1 h2
  have h0' : c0 = [.string (l.getD i zT).1] := h0
  have h1' : c1 = [.int .i64 (l.getD i zT).2.1] := h1
  have h2' : c2 = [.int .i64 (l.getD i zT).2.2] := h2
  subst h0' h1' h2'
  exact ⟨ad, hA, hc 0 _ rfl, by rw [← add_field ad (i * 3) 1 (by omega)]; exact hc 1 _ rfl, by rw [← add_field ad (i * 3) 2 (by omega)]; exact hc 2 _ rfl⟩
theorem getD_lt {α : Type} (l : List α) (z : α) (k : Nat) (h : k < l.length) : l.getD k z = l[k] := by rw [List.getD_eq_getElem?_getD, List.getElem?_eq_getElem h]; rfl
abbrev KF : Kd Fr := Kd.pair (Kd.int .i64) (Kd.int .i64)
theorem infoTerm : (Try.prog.info? 38).map (fun i => (i.zero, i.size, i.bytes)) = some (some (.agg #[(.string ⟨#[]⟩), (.int .i64 0), (.int .i64 0)]), 3, 32) := by kernel_rfl
theorem infoFrac : (Try.prog.info? 34).map (fun i => (i.zero, i.size, i.bytes)) = some (some (.agg #[(.int .i64 0), (.int .i64 0)]), 2, 16) := by kernel_rfl
theorem infoString : (Try.prog.info? 9).map (fun i => (i.zero, i.size, i.bytes)) = some (some (.string ⟨#[]⟩), 1, 16) := by kernel_rfl
theorem infoU8 : (Try.prog.info? 5).map (fun i => (i.zero, i.size, i.bytes)) = some (some (.int .u8 0), 1, 1) := by kernel_rfl
theorem KT_M (t : Tm) (W : World) (base : Nat) (ok : Nat → Prop) : KT.M W base ok t [.string t.1, .int .i64 t.2.1, .int .i64 t.2.2] := ⟨[.string t.1], [.int .i64 t.2.1, .int .i64 t.2.2], rfl, rfl, [.int .i64 t.2.1], [.int .i64 t.2.2], rfl, rfl, rfl⟩
theorem KF_M (t : Fr) (W : World) (base : Nat) (ok : Nat → Prop) : KF.M W base ok t [.int .i64 t.1, .int .i64 t.2] := ⟨[.int .i64 t.1], [.int .i64 t.2], rfl, rfl, rfl⟩
theorem str_eq (a b : ByteArray) : (a.toList == b.toList) = decide (a = b) := by
  rw [ByteArray.toList_eq, ByteArray.toList_eq]
  by_cases h : a = b
  · subst h; simp
  · rw [decide_eq_false h, beq_eq_false_iff_ne]
    exact fun e => h (bl_ext e)
theorem c2 {W : World} {b o : Nat} {v : Value} (h : W.cell? ⟨b, o + 2, none⟩ = some v) : W.cell? ⟨b, o + 1 + 1, none⟩ = some v := h
theorem quietB {P : Program} {f : FuncId} {args : Array Value} {w : World} {v : Value} (h : Calls P f args w fun e w' => e = .returned v ∧ ∃ n, w' = w.drewN n) : Calls P f args w fun e w' => e = .returned v ∧ Below w.heap.size w w' :=
  h.mono fun _ _ ⟨h, n, hn⟩ => ⟨h, by rw [hn]; exact pw_below_drewN (Below.refl _ _) n⟩
theorem round_next {p : Nat → Prop} {k : Nat} (h : ∀ j, j < k → p j) (hk : p k) : ∀ j, j < k + 1 → p j := fun j hj => (Nat.lt_succ_iff_lt_or_eq.1 hj).elim (h j) (fun e => e ▸ hk)
end Go.Proofs.Ytibjkjhpfmmjoaa.H


namespace Go.Proofs.Ytibjkjhpfmmjoaa.H
open Go.RowKit Go.Proofs.YtibjkjhpfmmjoaaW.PrintWords Go.Proofs.YtibjkjhpfmmjoaaW.PrintLast Go.Proofs.YtibjkjhpfmmjoaaW.PrintMore Go.Proofs.Ytibjkjhpfmmjoaa.M
set_option linter.unusedVariables false
set_option linter.unusedSimpArgs false
variable {w W W1 : World} {S : Nat → Prop} {L : List As}
/-- A term's cells. -/
def tc (t : Tm) : List Value := [.string t.1, .int .i64 t.2.1, .int .i64 t.2.2]
def flat (l : Ts) : List Value := l.flatMap tc
theorem flat_length (l : Ts) : (flat l).length = l.length * 3 := by
  unfold flat
  induction l with
  | nil => rfl
  | cons t r ih => rw [List.flatMap_cons, List.length_append, ih, List.length_cons, Nat.add_mul]; simp [tc]; omega
theorem flat_append (l m : Ts) : flat (l ++ m) = flat l ++ flat m := by unfold flat; rw [List.flatMap_append]
theorem flat_split (l : Ts) (k : Nat) (hk : k < l.length) : flat l = flat (l.take k) ++ (tc (l.getD k zT) ++ flat (l.drop (k + 1))) := by
  rw [getD_lt l zT k hk]
  conv => lhs; rw [← List.take_append_drop k l]
  rw [flat_append, List.drop_eq_getElem_cons hk]
  rfl
theorem flat_at (l : Ts) (k j : Nat) (hk : k < l.length) (hj : j < 3) : (flat l)[k * 3 + j]? = (tc (l.getD k zT))[j]? := by
  rw [flat_split l k hk, List.getElem?_append_right (by rw [flat_length, List.length_take]; omega), flat_length, List.length_take]
  rw [show k * 3 + j - min k l.length * 3 = j by rw [Nat.min_eq_left (by omega)]; omega, List.getElem?_append_left (by simpa [tc] using hj)]
theorem flat_set (l : Ts) (k : Nat) (t : Tm) (hk : k < l.length) : flat (l.set k t) = (flat l).take (k * 3) ++ (tc t ++ (flat l).drop (k * 3 + 3)) := by
  have hl : (flat (l.take k)).length = k * 3 := by rw [flat_length, List.length_take, Nat.min_eq_left (by omega)]
  rw [flat_split l k hk, List.take_append_of_le_length (by omega), List.take_of_length_le (by omega)]
  rw [List.drop_append, List.drop_of_length_le (by omega), hl, List.nil_append, show k * 3 + 3 - k * 3 = 3 by omega]
  rw [List.drop_append_of_le_length (by simp [tc])]
  rw [show (tc (l.getD k zT)).drop 3 = [] by simp [tc], List.nil_append]
  rw [List.set_eq_take_append_cons_drop, if_pos hk, flat_append]
  rfl
/-- The inner cells of an own row of terms. -/
theorem reps_flat {W : World} {base : Nat} {ok : Nat → Prop} : ∀ {l : Ts} {cs : List Value}, Reps (KT.M W base ok) 3 l cs → cs = flat l
  | [], cs, h => List.eq_nil_of_length_eq_zero (by have := h.1; simpa using this)
  | t :: r, cs, h => by
    have h0 := h.2 0 t rfl
    have hlen := h.1
    simp only [List.length_cons] at hlen
    rw [Nat.zero_mul, List.drop_zero] at h0
    obtain ⟨c0, c12, e, k0, c1, c2, e2, k1, k2⟩ := h0
    have k0' : c0 = [.string t.1] := k0
    have k1' : c1 = [.int .i64 t.2.1] := k1
    have k2' : c2 = [.int .i64 t.2.2] := k2
    have e3 : cs.take 3 = tc t := by rw [e, e2, k0', k1', k2']; rfl
    have hr : Reps (KT.M W base ok) 3 r (cs.drop 3) := by
      refine ⟨by rw [List.length_drop]; omega, fun j p hj => ?_⟩
      have := h.2 (j + 1) p (by simpa using hj)
      rw [List.drop_drop]
      rwa [show 3 + j * 3 = (j + 1) * 3 by omega]
    have := reps_flat hr
    rw [← List.take_append_drop 3 cs, e3, this]; rfl
theorem flat_reps {W : World} {base : Nat} {ok : Nat → Prop} (l : Ts) : Reps (KT.M W base ok) 3 l (flat l) := by
  refine ⟨by rw [flat_length], fun j p hj => ?_⟩
  obtain ⟨hj1, rfl⟩ := List.getElem?_eq_some_iff.1 hj
  have : ((flat l).drop (j * 3)).take 3 = tc l[j] := by
    rw [flat_split l j hj1, List.drop_append, List.drop_of_length_le (by rw [flat_length, List.length_take]; omega), List.nil_append, flat_length, List.length_take, Nat.min_eq_left (by omega), Nat.sub_self, List.drop_zero, List.take_append_of_le_length (by simp [tc]), getD_lt l zT j hj1]
    rfl
  rw [this]
  exact KT_M _ _ _ _
/-- A row of terms in a block of its own, with spare cells. -/
abbrev tr (g e : Nat) (l : Ts) (sp : List Value) : As := bx g e (flat l ++ sp).toArray
theorem tr_R {g e cap : Nat} {l : Ts} {sp : List Value} (h : (tr g e l sp).I W) (hc : (flat l ++ sp).length = cap * 3) (hm : cap ≤ 9223372036854775807) : KT.R e W 0 (fun _ => True) (.slice (some ⟨g, 0, none⟩) l.length cap) l := by
  have hlen := flat_length l
  rw [List.length_append] at hc
  refine ⟨fun _ _ => trivial, flat l, ⟨hlen, .inr ⟨g, cap, _, rfl, Nat.zero_le _, h, by omega, by unfold maxLen; omega, ?_, ?_⟩⟩, flat_reps l⟩
  · show (flat l ++ sp).toArray.size = cap * 3
    rw [List.size_toArray, List.length_append]; omega
  · show (flat l ++ sp).take (l.length * 3) = flat l
    rw [← hlen, List.take_left']
    rfl
theorem R_tr {e n c : Nat} {A : Option Addr} {l : Ts} (h : KT.R e W 0 (fun _ => True) (.slice A n c) l) (hn : n = l.length) (hl : 0 < l.length) : ∃ g sp, A = some ⟨g, 0, none⟩ ∧ (tr g e l sp).I W ∧ (flat l ++ sp).length = c * 3 ∧ c ≤ 9223372036854775807 := by
  subst hn
  obtain ⟨_, inner, ⟨h1, h2⟩, hr⟩ := h
  have hi := reps_flat hr
  rcases h2 with ⟨h3, h4⟩ | ⟨g, cap, cur, h3, _, hg, hn, hm, hs, ht⟩
  · omega
  · injection h3 with h3 h4 h5
    subst h3 h5
    refine ⟨g, cur.toList.drop (l.length * 3), rfl, ?_, ?_, by unfold maxLen at hm; omega⟩
    · show W.heap[g]? = _
      rw [hg, ← hi, show inner = cur.toList.take (l.length * 3) from ht.symm, List.take_append_drop]
    · rw [← hi, show inner = cur.toList.take (l.length * 3) from ht.symm, List.take_append_drop]
      show cur.toList.length = c * 3
      rw [Array.length_toList]; exact hs
/-- The two forms of one assertion. -/
theorem Mod.asRow (h : Mod w W S L) {i g e cap : Nat} {l : Ts} {sp : List Value} (hi : L[i]? = some (tr g e l sp)) (hc : (flat l ++ sp).length = cap * 3) (hm : cap ≤ 9223372036854775807) : Mod w W S (L.set i (rw' KT rfl e (.slice (some ⟨g, 0, none⟩) l.length cap) l)) :=
  h.turn hi ⟨rfl, rfl, rfl, Nat.le_refl _, fun _ _ _ => rfl, fun b hb => by
    obtain rfl := List.mem_singleton.1 hb
    exact ⟨tr_R (h.at hi) hc hm, fun k hk => .inl (by have hk' : (Value.slice (some ⟨g, 0, none⟩) l.length cap).ownBlock = some k := hk; simp only [Value.ownBlock, Option.some.injEq] at hk'; exact hk'.symm)⟩, List.pairwise_singleton _ _⟩ (fun k hk => .inl (by have hk' : (Value.slice (some ⟨g, 0, none⟩) l.length cap).ownBlock = some k := hk; simp only [Value.ownBlock, Option.some.injEq] at hk'; exact hk'.symm))
theorem Mod.asBlock (h : Mod w W S L) {i g e n c : Nat} {l : Ts} {sp : List Value} (hi : L[i]? = some (rw' KT rfl e (.slice (some ⟨g, 0, none⟩) n c) l)) (hI : (tr g e l sp).I W) : Mod w W S (L.set i (tr g e l sp)) :=
  h.turn hi ⟨rfl, rfl, rfl, Nat.le_refl _, fun _ _ _ => rfl, fun b hb => by
    obtain rfl := List.mem_singleton.1 hb
    exact ⟨hI, fun k hk => .inl (by rw [show k = g from hk]; rfl)⟩, List.pairwise_singleton _ _⟩ (fun k hk => .inl (by rw [show k = g from hk]; rfl))
/-- A whole term is written. -/
theorem over_term (l : Ts) (sp : List Value) (k : Nat) (t : Tm) (hk : k < l.length) : over (flat l ++ sp).toArray (k * 3) (tc t) = (flat (l.set k t) ++ sp).toArray := by
  have hl := flat_length l
  unfold over
  simp only [List.toList_toArray]
  congr 1
  rw [flat_set l k t hk, List.take_append_of_le_length (by omega), show (tc t).length = 3 from rfl, List.drop_append_of_le_length (by omega)]
  simp only [List.append_assoc]
section
variable {P : Program} {ops : Array Oper} {o : Oper} {a : Act} {Q : Exit → Act → World → Prop} {Kc : Act → World → Prop}
theorem stp_put_term (hw : Region.wanted o (yielded ops a.tmps) = true) (hN : o.dst = none) {ty : TypeId} {x y : Operand} (ho : o.op = .store ty x y) (HS : Aside0 (Mod w W S L)) (i : Nat) {g e : Nat} {l : Ts} {sp : List Value} (hi : L[i]? = some (tr g e l sp)) (k : Nat) (hk : k < l.length) (t : Tm)
    (hx : a.eval x = .pointer (some ⟨g, k * 3, none⟩)) (hy : a.eval y = .agg #[.string t.1, .int .i64 t.2.1, .int .i64 t.2.2]) (hsz : (P.info? ty).map (·.size) = some 3) (h : ∀ w1, Aside0 (Mod w w1 S (L.set i (tr g e (l.set k t) sp))) → Kc a w1) : Stp P ops Q o a W Kc := by
  have hl := flat_length l
  refine stp_set hw hN ho HS i (k * 3) (cs' := (flat (l.set k t) ++ sp).toArray) hi hx hy hsz ?_ (over_term l sp k t hk) h
  rw [Bool.and_eq_true, decide_eq_true_eq]
  refine ⟨?_, rfl⟩
  show k * 3 + 3 ≤ (flat l ++ sp).toArray.size
  rw [List.size_toArray, List.length_append]; omega
end
theorem tr_cell {g e : Nat} {l : Ts} {sp : List Value} (h : (tr g e l sp).I W) (k j : Nat) (hk : k < l.length) (hj : j < 3) {v : Value} (hv : (tc (l.getD k zT))[j]? = some v) : W.cell? ⟨g, k * 3 + j, none⟩ = some v := by
  refine (blk_cell h (k * 3 + j)).trans ?_
  rw [List.getElem?_toArray, List.getElem?_append_left (by rw [flat_length]; omega), flat_at l k j hk hj]
  exact hv
end Go.Proofs.Ytibjkjhpfmmjoaa.H


/- What the reference's functions on fractions return: proved by walking their code. Conditions: the bounds that stand in each statement. -/
namespace Go.Proofs.Ytibjkjhpfmmjoaa.H
open Go.RowKit Go.Proofs.YtibjkjhpfmmjoaaW.PrintWords Go.Proofs.YtibjkjhpfmmjoaaW.PrintLast Go.Proofs.YtibjkjhpfmmjoaaW.PrintMore Go.Proofs.Ytibjkjhpfmmjoaa.M
attribute [local go_sem] max2_int min2_int max_two min_two max_three min_three max_four min_four
set_option linter.unusedVariables false
set_option linter.unusedSimpArgs false

theorem specIn (a b c : Int) (w : World) : Calls Try.prog 61 #[.int .i64 a, .int .i64 b, .int .i64 c] w fun e w' => e = .returned (.bool (inR a b c)) ∧ ∃ n, w' = w.drewN n := by
  by_cases h : b ≤ a
  · go_enter Try.func61, Try.ntmps61
    go_wp2
    go_ret
    exact ⟨ret_bool (by simp [inR, h]), 0, rfl⟩
  · go_enter Try.func61, Try.ntmps61
    go_wp2
    go_ret
    exact ⟨ret_bool (by simp [inR]; omega), 0, rfl⟩

theorem specGcd (a b : Int) (w : World) (ha : -9223372036854775807 ≤ a) (ha' : a ≤ 9223372036854775807) (hb : -9223372036854775807 ≤ b) (hb' : b ≤ 9223372036854775807) :
    Calls Try.prog 137 #[.int .i64 a, .int .i64 b] w fun e w' => e = .returned (.int .i64 (Int.gcd a b)) ∧ w = w' := by
  go_enter Try.func137, Try.ntmps137
  go_wp2
  go_loop [0, 1] (fun x y => ∃ p q : Int, x = .int .i64 p ∧ y = .int .i64 q ∧ Hid (Int.gcd p q = Int.gcd a b) ∧ -9223372036854775807 ≤ p ∧ p ≤ 9223372036854775807 ∧ -9223372036854775807 ≤ q ∧ q ≤ 9223372036854775807) (fun _ y => (intOf y).natAbs)
  case atStart => exact ⟨a, b, rfl, rfl, rfl, ha, ha', hb, hb'⟩
  case round =>
    clear ha ha' hb hb'
    obtain ⟨p, q, rfl, rfl, hg, hp, hp', hq, hq'⟩ := hrel
    by_cases h : q = 0
    · have h1 : (q == 0) = true := by simpa using h
      have h2 : (q != 0) = false := by simpa using h
      have hfin : (if p < -p then -p else p) = (Int.gcd a b : Int) := by
        rw [← hg.out, h, Int.gcd_zero_right]; split <;> omega
      clear hg h
      go_wp2
      go_ret
      exact ⟨rfl, rfl⟩
    · have h1 : (q == 0) = false := by simpa using h
      have h2 : (q != 0) = true := by simpa using h
      have hm := tmod_lt (a := p) h
      have hm' := tmod_le p q
      have hg' : Hid (Int.gcd q (p.tmod q) = Int.gcd a b) := by rw [Hid, gcd_tmod]; exact hg
      go_wp2
      go_round
      case rel => exact ⟨q, p.tmod q, rfl, rfl, hg', hq, hq', by omega, by omega⟩
      case measure => exact hm

theorem specIsFrac (a b : Int) (w : World) : Calls Try.prog 107 #[.agg #[.int .i64 a, .int .i64 b]] w fun e w' => e = .returned (.bool (isFr a b)) ∧ Below w.heap.size w w' := by
  cases h1 : inR b 1 1000000000 with
  | false =>
    have hf := Lib.hid (show isFr a b = false by simp [isFr, h1])
    go_enter Try.func107, Try.ntmps107
    go_wp2_with (first | (go_at_call 61; refine (specIn _ _ _ _).mono ?_; rintro e w1 ⟨rfl, n, rfl⟩))
    go_ret
    exact ⟨ret_bool hf.out.symm, pw_below_drewN ((Below.refl _ _).alloc (Nat.le_refl _) _) _⟩
  | true =>
    cases h2 : inR a (-1000000000) 1000000000 with
    | false =>
      have hf := Lib.hid (show isFr a b = false by simp [isFr, h1, h2])
      go_enter Try.func107, Try.ntmps107
      go_wp2_with (first | (go_at_call 61; refine (specIn _ _ _ _).mono ?_; rintro e w1 ⟨rfl, n, rfl⟩))
      go_ret
      exact ⟨ret_bool hf.out.symm, pw_below_drewN ((Below.refl _ _).alloc (Nat.le_refl _) _) _⟩
    | true =>
      have hf := Lib.hid (show isFr a b = ((Int.gcd a b : Int) == 1) by simp [isFr, h1, h2]; rfl)
      obtain ⟨k11, k12⟩ := (inR_iff _ _ _).1 h1
      obtain ⟨k21, k22⟩ := (inR_iff _ _ _).1 h2
      go_enter Try.func107, Try.ntmps107
      go_wp2_with (first | (go_at_call 61; refine (specIn _ _ _ _).mono ?_; rintro e w1 ⟨rfl, n, rfl⟩) | (go_at_call 137; refine (specGcd _ _ _ (by omega) (by omega) (by omega) (by omega)).mono ?_; rintro e w1 ⟨rfl, rfl⟩))
      go_ret
      exact ⟨ret_bool hf.out.symm, pw_below_drewN ((Below.refl _ _).alloc (Nat.le_refl _) _) _⟩

theorem specFrac (a b : Int) (w : World) (ha : -9223372036854775807 ≤ a) (ha' : a ≤ 9223372036854775807) (hb : -9223372036854775807 ≤ b) (hb' : b ≤ 9223372036854775807) :
    Calls Try.prog 139 #[.int .i64 a, .int .i64 b] w fun e w' =>
      e = .returned (.tuple #[.agg #[.int .i64 (sfrac (frac a b)).1.1, .int .i64 (sfrac (frac a b)).1.2], .bool (sfrac (frac a b)).2]) ∧ Below w.heap.size w w' := by
  by_cases h0 : b = 0
  · have hf := Lib.hid (show frac a b = none by rw [h0, frac_zero])
    have h1 : (b == 0) = true := by simpa using h0
    clear h0
    go_enter Try.func139, Try.ntmps139
    go_wp2
    refine bodyPost_ret (v := .tuple #[.agg #[.int .i64 0, .int .i64 0], .bool false]) (by simp [results, Try.results139, go_sem]) rfl ⟨by rw [hf.out]; rfl, ?_⟩
    exact (Below.refl _ _).alloc (Nat.le_refl _) _
  · have h1 : (b == 0) = false := by simpa using h0
    have hs := sgd_ne (a := a) h0
    have hs1 : (sgd a b == 0) = false := by simpa using hs
    have hg := gcd_pos (a := a) h0
    have hl := gcd_le (a := a) h0
    have hn := rnum_abs a b
    have hd := rden_abs a b
    have hwn : wrap64 (a.tdiv (sgd a b)) = a.tdiv (sgd a b) := by have : (a.tdiv (sgd a b)).natAbs ≤ a.natAbs := hn; unfold wrap64; omega
    have hwd : wrap64 (b.tdiv (sgd a b)) = b.tdiv (sgd a b) := by have : (b.tdiv (sgd a b)).natAbs ≤ b.natAbs := hd; unfold wrap64; omega
    have hwn' : IntKind.i64.wrap (a.tdiv (sgd a b)) = a.tdiv (sgd a b) := (i64_w _).trans hwn
    have hwd' : IntKind.i64.wrap (b.tdiv (sgd a b)) = b.tdiv (sgd a b) := (i64_w _).trans hwd
    have hko := Lib.hid (show okN a b = isFr (a.tdiv (sgd a b)) (b.tdiv (sgd a b)) from rfl)
    have hfr := Lib.hid (frac_ok (a := a) (b := b) h0)
    have hfb := Lib.hid (frac_bad (a := a) (b := b))
    have hrn := Lib.hid (show rnum a b = a.tdiv (sgd a b) from rfl)
    have hrd := Lib.hid (show rden a b = b.tdiv (sgd a b) from rfl)
    have hsg : b < 0 ∧ Hid (-(Int.gcd a b : Int) = sgd a b) ∨ ¬ b < 0 ∧ Hid ((Int.gcd a b : Int) = sgd a b) := by
      unfold sgd Hid; by_cases hneg : b < 0 <;> simp [hneg]
    rcases hsg with ⟨hneg, hsg⟩ | ⟨hneg, hsg⟩
    all_goals
      go_enter Try.func139, Try.ntmps139
      go_wp2_with (first | (go_at_call 137; refine (specGcd _ _ _ ha ha' hb hb').mono ?_; rintro e w1 ⟨rfl, rfl⟩))
      clear hg hl hn hd
      rw [hsg.out]
      clear hsg
      generalize sgd a b = d at *
      go_region
      go_wp2_with (first | (go_at_call 107; refine (specIsFrac _ _ _).mono ?_; rintro e w1 ⟨rfl, hb1⟩; obtain ⟨hc1, hf1⟩ := bcell hb1; have HB := Lib.hid (below_pair (w := w) (by repeat (first | exact Below.refl _ _ | (with_reducible assumption) | exact HB.out | apply below_alloc | apply pw_below_drewN | apply below_drew | refine below_set ?_ (by first | omega | (simp; done) | (simp; omega)) | assumption)) hb1); have hx0 : w1.cell? ⟨w.heap.size, 0, none⟩ = some (.int .i64 0) := (hc1 _ _ (by simp; omega)).trans (by simp); have hx1 : w1.cell? ⟨w.heap.size, 1, none⟩ = some (.int .i64 0) := (hc1 _ _ (by simp; omega)).trans (by simp); clear hb1))
      · rename_i hbad
        have hno : frac a b = none := hfb.out (by rw [hko.out]; simpa using hbad)
        exact bodyPost_ret (v := .tuple #[.agg #[.int .i64 0, .int .i64 0], .bool false]) (by simp [results, Try.results139, go_sem, hx0, hx1]) rfl ⟨by rw [hno]; rfl, by repeat (first | exact Below.refl _ _ | (with_reducible assumption) | exact HB.out | apply below_alloc | apply pw_below_drewN | apply below_drew | refine below_set ?_ (by first | omega | (simp; done) | (simp; omega)) | assumption)⟩
      · rename_i hgood
        have hyes : frac a b = some (a.tdiv d, b.tdiv d) := by rw [hfr.out (by rw [hko.out]; simpa using hgood), hrn.out, hrd.out]
        exact bodyPost_ret (v := .tuple #[.agg #[.int .i64 (a.tdiv d), .int .i64 (b.tdiv d)], .bool true]) (by simp [results, Try.results139, go_sem, hx0, hx1]) rfl ⟨by rw [hyes]; rfl, by repeat (first | exact Below.refl _ _ | (with_reducible assumption) | exact HB.out | apply below_alloc | apply pw_below_drewN | apply below_drew | refine below_set ?_ (by first | omega | (simp; done) | (simp; omega)) | assumption)⟩

theorem specPlus (a1 a2 b1 b2 : Int) (w : World) (ha : small (a1, a2)) (hb : small (b1, b2)) : Calls Try.prog 122 #[.agg #[.int .i64 a1, .int .i64 a2], .agg #[.int .i64 b1, .int .i64 b2]] w fun e w' =>
    e = .returned (.tuple #[.agg #[.int .i64 (sfrac (add (a1, a2) (b1, b2))).1.1, .int .i64 (sfrac (add (a1, a2) (b1, b2))).1.2], .bool (sfrac (add (a1, a2) (b1, b2))).2]) ∧ Below w.heap.size w w' := by
  unfold small at ha hb
  obtain ⟨x1, x2, x3, x4⟩ := ha
  obtain ⟨y1, y2, y3, y4⟩ := hb
  obtain ⟨n0, m0⟩ := small_mul (a := a1) (b := b2) ⟨x1, x2⟩ ⟨y3, y4⟩
  have hw0 : wrap64 (a1 * b2) = a1 * b2 := wrap_id (by omega) (by omega)
  have hv0 : IntKind.i64.wrap (a1 * b2) = a1 * b2 := (i64_w _).trans hw0
  obtain ⟨n1, m1⟩ := small_mul (a := b1) (b := a2) ⟨y1, y2⟩ ⟨x3, x4⟩
  have hw1 : wrap64 (b1 * a2) = b1 * a2 := wrap_id (by omega) (by omega)
  have hv1 : IntKind.i64.wrap (b1 * a2) = b1 * a2 := (i64_w _).trans hw1
  obtain ⟨n2, m2⟩ := small_mul (a := a2) (b := b2) ⟨x3, x4⟩ ⟨y3, y4⟩
  have hw2 : wrap64 (a2 * b2) = a2 * b2 := wrap_id (by omega) (by omega)
  have hv2 : IntKind.i64.wrap (a2 * b2) = a2 * b2 := (i64_w _).trans hw2
  have hm := Lib.hid (show add (a1, a2) (b1, b2) = frac (a1 * b2 + b1 * a2) (a2 * b2) from rfl)
  clear x1 x2 x3 x4 y1 y2 y3 y4
  go_enter Try.func122, Try.ntmps122
  go_wp2_with (first | (go_at_call 139; refine (specFrac _ _ _ (by omega) (by omega) (by omega) (by omega)).mono ?_; rintro e w1 ⟨rfl, hb1⟩; obtain ⟨hc1, hf1⟩ := bcell hb1; have hz1 := hb1.size; (try simp at hz1); (try have hy0 := Nat.lt_of_succ_le hz1); (try have hy1 := Nat.lt_of_succ_lt hy0); (try have hy2 := Nat.lt_of_succ_lt hy1); (try have hy3 := Nat.lt_of_succ_lt hy2); (try have hv0 : w.heap.size < w1.heap.size := by omega); (try have hv1 : w.heap.size + 1 < w1.heap.size := by omega); (try have hv2 : w.heap.size + 1 + 1 < w1.heap.size := by omega); have HB := Lib.hid (below_pair (w := w) (by repeat (first | exact Below.refl _ _ | (with_reducible assumption) | exact HB.out | apply below_alloc | apply pw_below_drewN | apply below_drew | refine below_set ?_ (by first | omega | (simp; done) | (simp; omega)) | assumption)) hb1); clear hb1))
  exact bodyPost_ret (v := .tuple #[.agg #[.int .i64 (sfrac (frac (a1 * b2 + b1 * a2) (a2 * b2))).1.1, .int .i64 (sfrac (frac (a1 * b2 + b1 * a2) (a2 * b2))).1.2], .bool (sfrac (frac (a1 * b2 + b1 * a2) (a2 * b2))).2]) (by simp only [results, Try.results122]; go_simp) rfl ⟨by rw [hm.out], by repeat (first | exact Below.refl _ _ | (with_reducible assumption) | exact HB.out | apply below_alloc | apply pw_below_drewN | apply below_drew | refine below_set ?_ (by first | omega | (simp; done) | (simp; omega)) | assumption)⟩

theorem specZero (a b : Int) (w : World) : Calls Try.prog 108 #[.agg #[.int .i64 a, .int .i64 b]] w fun e w' => e = .returned (.bool (a == 0)) ∧ Below w.heap.size w w' := by
  go_enter Try.func108, Try.ntmps108
  go_wp2
  go_ret
  exact ⟨rfl, by repeat (first | exact Below.refl _ _ | (with_reducible assumption) | exact HB.out | apply below_alloc | apply pw_below_drewN | apply below_drew | refine below_set ?_ (by first | omega | (simp; done) | (simp; omega)) | assumption)⟩
end Go.Proofs.Ytibjkjhpfmmjoaa.H

/- What the program's functions on fractions return: proved by walking their code. Conditions: the bounds that stand in each statement. -/
namespace Go.Proofs.Ytibjkjhpfmmjoaa.H
open Go.RowKit Go.Proofs.YtibjkjhpfmmjoaaW.PrintWords Go.Proofs.YtibjkjhpfmmjoaaW.PrintLast Go.Proofs.YtibjkjhpfmmjoaaW.PrintMore Go.Proofs.Ytibjkjhpfmmjoaa.M
attribute [local go_sem] max2_int min2_int max_two min_two max_three min_three max_four min_four
set_option linter.unusedVariables false
set_option linter.unusedSimpArgs false

theorem implIn (a b c : Int) (w : World) : Calls Try.prog 58 #[.int .i64 a, .int .i64 b, .int .i64 c] w fun e w' => e = .returned (.bool (inR a b c)) ∧ ∃ n, w' = w.drewN n := by
  by_cases h : b ≤ a
  · go_enter Try.func58, Try.ntmps58
    go_wp2
    go_ret
    exact ⟨ret_bool (by simp [inR, h]), 0, rfl⟩
  · go_enter Try.func58, Try.ntmps58
    go_wp2
    go_ret
    exact ⟨ret_bool (by simp [inR]; omega), 0, rfl⟩

theorem implUp (a b : Int) (w : World) (hb : -9223372036854775807 ≤ b) (hb' : b ≤ 9223372036854775807) : Calls Try.prog 133 #[.int .i64 a, .int .i64 b] w fun e w' => e = .returned (.bool (inR a (-b) b)) ∧ ∃ n, w' = w.drewN n := by
  go_enter Try.func133, Try.ntmps133
  go_wp2_with (first | (go_at_call 58; refine (implIn _ _ _ _).mono ?_; rintro e w1 ⟨rfl, n, rfl⟩))
  go_ret
  exact ⟨rfl, n, rfl⟩

theorem implSize (a : Int) (w : World) (ha : -9223372036854775807 ≤ a) (ha' : a ≤ 9223372036854775807) : Calls Try.prog 143 #[.int .i64 a] w fun e w' => e = .returned (.int .i64 (a.natAbs : Int)) ∧ w = w' := by
  go_enter Try.func143, Try.ntmps143
  go_wp2
  all_goals
    go_ret
    exact ⟨ret_int (by omega), rfl⟩

theorem implGcd (a b : Int) (w : World) (ha : -9223372036854775807 ≤ a) (ha' : a ≤ 9223372036854775807) (hb : -9223372036854775807 ≤ b) (hb' : b ≤ 9223372036854775807) :
    Calls Try.prog 134 #[.int .i64 a, .int .i64 b] w fun e w' => e = .returned (.int .i64 (Int.gcd a b)) ∧ ∃ n, w' = w.drewN n := by
  go_enter Try.func134, Try.ntmps134
  go_wp2_with (first | (go_at_call 143; refine (implSize _ _ (by assumption) (by assumption)).mono ?_; rintro e w1 ⟨rfl, rfl⟩))
  go_loopw [0, 1] (fun x y w' => ∃ p q n : Nat, x = .int .i64 (p : Int) ∧ y = .int .i64 (q : Int) ∧ Hid (Nat.gcd p q = Int.gcd a b) ∧ p ≤ 9223372036854775807 ∧ q ≤ 9223372036854775807 ∧ Hid (w' = w.drewN n)) (fun _ y _ => (intOf y).natAbs)
  case atStart => exact ⟨a.natAbs, b.natAbs, 0, rfl, rfl, rfl, by omega, by omega, rfl⟩
  case round =>
    clear ha ha' hb hb'
    obtain ⟨p, q, n, rfl, rfl, hg, hp, hq, hw⟩ := hrel
    by_cases h : q = 0
    · have h1 : ((q : Int) == 0) = true := by simpa using h
      have h2 : ((q : Int) != 0) = false := by simpa using h
      have hfin := Lib.hid (show (p : Int) = (Int.gcd a b : Int) by rw [← hg.out, h, Nat.gcd_zero_right])
      clear hg h
      go_wp2
      go_ret
      exact ⟨ret_int hfin.out, n, hw.out⟩
    · have h1 : ((q : Int) == 0) = false := by simpa using h
      have h2 : ((q : Int) != 0) = true := by simpa using h
      have h3 : ¬ ((q : Int) = 0) := by simpa using h
      have hm : p % q < q := Nat.mod_lt _ (by omega)
      have hg' : Hid (Nat.gcd q (p % q) = Int.gcd a b) := by rw [Hid, Nat.gcd_comm, ← Nat.gcd_rec, Nat.gcd_comm]; exact hg.out
      go_wp2
      go_region
      go_roundw
      case rel => (repeat apply Exists.intro); exact ⟨⟨q, p % q, n + 1, rfl, by go_num, hg', hq, by omega, by rw [Hid, hw.out]; rfl⟩, rfl⟩
      case measure => simp [intOf]; omega

theorem implIsFraction (a b : Int) (w : World) : Calls Try.prog 96 #[.agg #[.int .i64 a, .int .i64 b]] w fun e w' => e = .returned (.bool (isFr a b)) ∧ Below w.heap.size w w' := by
  cases h1 : inR b 1 1000000000 with
  | false =>
    have hf := Lib.hid (show isFr a b = false by simp [isFr, h1])
    go_enter Try.func96, Try.ntmps96
    go_wp2_with (first | (go_at_call 58; refine (implIn _ _ _ _).mono ?_; rintro e w1 ⟨rfl, n, rfl⟩))
    go_ret
    exact ⟨ret_bool hf.out.symm, by repeat (first | exact Below.refl _ _ | (with_reducible assumption) | exact HB.out | apply below_alloc | apply pw_below_drewN | apply below_drew | refine below_set ?_ (by first | omega | (simp; done) | (simp; omega)) | assumption)⟩
  | true =>
    cases h2 : inR a (-1000000000) 1000000000 with
    | false =>
      have hf := Lib.hid (show isFr a b = false by simp [isFr, h1, h2])
      go_enter Try.func96, Try.ntmps96
      go_wp2_with (first | (go_at_call 58; refine (implIn _ _ _ _).mono ?_; rintro e w1 ⟨rfl, n, rfl⟩) | (go_at_call 133; refine (implUp _ _ _ (by omega) (by omega)).mono ?_; rintro e w1 ⟨rfl, n, rfl⟩))
      go_ret
      exact ⟨ret_bool hf.out.symm, by repeat (first | exact Below.refl _ _ | (with_reducible assumption) | exact HB.out | apply below_alloc | apply pw_below_drewN | apply below_drew | refine below_set ?_ (by first | omega | (simp; done) | (simp; omega)) | assumption)⟩
    | true =>
      have hf := Lib.hid (show isFr a b = ((Int.gcd a b : Int) == 1) by simp [isFr, h1, h2]; rfl)
      obtain ⟨k11, k12⟩ := (inR_iff _ _ _).1 h1
      obtain ⟨k21, k22⟩ := (inR_iff _ _ _).1 h2
      go_enter Try.func96, Try.ntmps96
      go_wp2_with (first | (go_at_call 58; refine (implIn _ _ _ _).mono ?_; rintro e w1 ⟨rfl, n, rfl⟩) | (go_at_call 133; refine (implUp _ _ _ (by omega) (by omega)).mono ?_; rintro e w1 ⟨rfl, n, rfl⟩) | (go_at_call 134; refine (implGcd _ _ _ (by omega) (by omega) (by omega) (by omega)).mono ?_; rintro e w1 ⟨rfl, n, rfl⟩))
      go_ret
      exact ⟨ret_bool hf.out.symm, by repeat (first | exact Below.refl _ _ | (with_reducible assumption) | exact HB.out | apply below_alloc | apply pw_below_drewN | apply below_drew | refine below_set ?_ (by first | omega | (simp; done) | (simp; omega)) | assumption)⟩

set_option maxHeartbeats 2000000 in
theorem implReduced (a b : Int) (w : World) (h0 : b ≠ 0) (ha : -9223372036854775807 ≤ a) (ha' : a ≤ 9223372036854775807) (hb : -9223372036854775807 ≤ b) (hb' : b ≤ 9223372036854775807) :
    Calls Try.prog 141 #[.int .i64 a, .int .i64 b] w fun e w' =>
      e = .returned (.tuple #[.agg #[.int .i64 (rnum a b), .int .i64 (rden a b)], .bool (okN a b)]) ∧ Below w.heap.size w w' := by
  have hs := sgd_ne (a := a) h0
  have hs1 : (sgd a b == 0) = false := by simpa using hs
  have hg := gcd_pos (a := a) h0
  have hl := gcd_le (a := a) h0
  have hn := rnum_abs a b
  have hd := rden_abs a b
  have hwn : wrap64 (a.tdiv (sgd a b)) = a.tdiv (sgd a b) := by have : (a.tdiv (sgd a b)).natAbs ≤ a.natAbs := hn; unfold wrap64; omega
  have hwd : wrap64 (b.tdiv (sgd a b)) = b.tdiv (sgd a b) := by have : (b.tdiv (sgd a b)).natAbs ≤ b.natAbs := hd; unfold wrap64; omega
  have hwn' : IntKind.i64.wrap (a.tdiv (sgd a b)) = a.tdiv (sgd a b) := (i64_w _).trans hwn
  have hwd' : IntKind.i64.wrap (b.tdiv (sgd a b)) = b.tdiv (sgd a b) := (i64_w _).trans hwd
  have hko := Lib.hid (show isFr (a.tdiv (sgd a b)) (b.tdiv (sgd a b)) = okN a b from rfl)
  have hrn := Lib.hid (show a.tdiv (sgd a b) = rnum a b from rfl)
  have hrd := Lib.hid (show b.tdiv (sgd a b) = rden a b from rfl)
  have hsg : b < 0 ∧ Hid (-(Int.gcd a b : Int) = sgd a b) ∨ ¬ b < 0 ∧ Hid ((Int.gcd a b : Int) = sgd a b) := by
    unfold sgd Hid; by_cases hneg : b < 0 <;> simp [hneg]
  rcases hsg with ⟨hneg, hsg⟩ | ⟨hneg, hsg⟩
  all_goals
    go_enter Try.func141, Try.ntmps141
    go_wp2_with (first | (go_at_call 134; refine (implGcd _ _ _ ha ha' hb hb').mono ?_; rintro e w1 ⟨rfl, n, rfl⟩))
    clear hg hl hn hd
    rw [hsg.out]
    clear hsg
    generalize sgd a b = d at *
    go_region
    go_wp2
    go_region_with (go_at_call 96; refine (implIsFraction _ _ _).mono ?_; rintro e w1 ⟨rfl, hb1⟩; obtain ⟨hc1, hf1⟩ := bcell hb1; have hz1 := hb1.size; (try simp at hz1); (try have hy0 := Nat.lt_of_succ_le hz1); (try have hy1 := Nat.lt_of_succ_lt hy0); (try have hy2 := Nat.lt_of_succ_lt hy1); (try have hy3 := Nat.lt_of_succ_lt hy2); (try have hv0 : w.heap.size < w1.heap.size := by omega); (try have hv1 : w.heap.size + 1 < w1.heap.size := by omega); (try have hv2 : w.heap.size + 1 + 1 < w1.heap.size := by omega); have HB := Lib.hid (below_pair (w := w) (by repeat (first | exact Below.refl _ _ | (with_reducible assumption) | exact HB.out | apply below_alloc | apply pw_below_drewN | apply below_drew | refine below_set ?_ (by first | omega | (simp; done) | (simp; omega)) | assumption)) hb1); clear hb1; have hx0 : w1.cell? ⟨w.heap.size, 0, none⟩ = some (.int .i64 0) := (hc1 _ _ (by go_simp)).trans (by go_simp); have hx1 : w1.cell? ⟨w.heap.size, 1, none⟩ = some (.int .i64 0) := (hc1 _ _ (by go_simp)).trans (by go_simp))
    all_goals
      go_wp2
      exact bodyPost_ret (v := .tuple #[.agg #[.int .i64 (a.tdiv d), .int .i64 (b.tdiv d)], .bool (isFr (a.tdiv d) (b.tdiv d))]) (by simp only [results, Try.results141]; go_simp) rfl ⟨by rw [hko.out, hrn.out, hrd.out], by repeat (first | exact Below.refl _ _ | (with_reducible assumption) | exact HB.out | apply below_alloc | apply pw_below_drewN | apply below_drew | refine below_set ?_ (by first | omega | (simp; done) | (simp; omega)) | assumption)⟩
end Go.Proofs.Ytibjkjhpfmmjoaa.H


namespace Go.Proofs.Ytibjkjhpfmmjoaa.M
theorem isWd_iff {d : Nat} {s : ByteArray} : isWd d s = true ↔ ∀ j, (h : j < s.size) → 48 ≤ s[j].toNat ∧ s[j].toNat < 48 + d := by
  unfold isWd isWL bl
  rw [List.all_eq_true]
  constructor
  · intro h j hj
    have := h s[j] (by rw [show s[j] = s.data.toList[j]'(by simpa using hj) from rfl]; exact List.getElem_mem _)
    simpa using this
  · intro h c hc
    obtain ⟨j, hj, rfl⟩ := List.getElem_of_mem hc
    have := h j (by simpa using hj)
    exact decide_eq_true this
theorem isWd_no {d : Nat} {s : ByteArray} {j : Nat} (hj : j < s.size) (h : ¬ (48 ≤ (s[j].toNat : Int) ∧ (s[j].toNat : Int) < 48 + d)) : isWd d s = false := by
  rw [← Bool.not_eq_true, isWd_iff]
  intro hh
  have := hh j hj
  omega
end Go.Proofs.Ytibjkjhpfmmjoaa.M
namespace Go.Proofs.Ytibjkjhpfmmjoaa.H
open Go.RowKit Go.Proofs.YtibjkjhpfmmjoaaW.PrintWords Go.Proofs.YtibjkjhpfmmjoaaW.PrintLast Go.Proofs.YtibjkjhpfmmjoaaW.PrintMore Go.Proofs.Ytibjkjhpfmmjoaa.M
attribute [local go_sem] max2_int min2_int max_two min_two max_three min_three max_four min_four
set_option linter.unusedVariables false
set_option linter.unusedSimpArgs false
theorem u8_sub {x : Int} (h0 : 48 ≤ x) (h1 : x < 256) : IntKind.u8.wrap (x - 48) = x - 48 := IntWalk.u8_in _ ⟨by omega, by omega⟩
set_option maxRecDepth 100000 in
set_option maxHeartbeats 4000000 in
theorem specWord (d : Nat) (hd : d ≤ 9) (s : ByteArray) (hs : s.size ≤ 9223372036854775807) (w : World) :
    Calls Try.prog 90 #[.int .i64 (d : Int), .string s] w fun e w' => e = .returned (.bool (isWd d s)) ∧ Below w.heap.size w w' := by
  go_enter Try.func90, Try.ntmps90
  go_wp2
  go_loop [5] (fun i => ∃ k : Nat, k ≤ s.size ∧ i = .int .i64 (k : Int) ∧ Hid (∀ j, (h : j < s.size) → j < k → 48 ≤ s[j].toNat ∧ s[j].toNat < 48 + d)) (fun i => s.size - (intOf i).toNat)
  case atStart => exact ⟨0, by omega, rfl, fun j _ hj => by omega⟩
  case round =>
    obtain ⟨k, hk, rfl, HY⟩ := hrel
    by_cases hlt : k < s.size
    · obtain ⟨c, hc⟩ : ∃ c : Int, ∀ h : k < s.size, ((s[k]'h).toNat : Int) = c := ⟨((s[k]'hlt).toNat : Int), fun _ => rfl⟩
      have hc0 : 0 ≤ c := by rw [← hc hlt]; omega
      have hc1 : c < 256 := by have := (s[k]'hlt).toNat_lt; rw [← hc hlt]; omega
      have HC := Lib.hid (hc hlt)
      by_cases h1 : c < 48
      · go_wp2
        go_ret
        exact ⟨ret_bool (isWd_no hlt (by rw [HC.out]; omega)).symm, Below.refl _ _⟩
      · have hu := u8_sub (x := c) (by omega) hc1
        by_cases h2 : c - 48 ≥ d
        · go_wp2
          go_ret
          exact ⟨ret_bool (isWd_no hlt (by rw [HC.out]; omega)).symm, Below.refl _ _⟩
        · have h3 : ¬ (d : Int) ≤ c - 48 := by omega
          go_wp2
          go_round
          case rel => exact ⟨k + 1, by omega, by go_num, fun j h hj => (Nat.lt_succ_iff_lt_or_eq.1 hj).elim (HY j h) (fun e => by subst e; have := HC.out; omega)⟩
          case measure => simp [intOf]; omega
    · go_wp2
      go_ret
      exact ⟨ret_bool (isWd_iff.2 (fun j h => HY j h (by omega))).symm, Below.refl _ _⟩
set_option maxRecDepth 100000 in
set_option maxHeartbeats 4000000 in
theorem implWord (d n : Nat) (hd : d ≤ 9) (s : ByteArray) (hs : s.size ≤ 9223372036854775807) (w : World) :
    Calls Try.prog 63 #[.int .i64 (d : Int), .string s, .int .i64 (n : Int)] w fun e w' => e = .returned (.bool (isWd d s && decide (s.size ≤ n))) ∧ Below w.heap.size w w' := by
  go_enter Try.func63, Try.ntmps63
  go_wp2
  go_loop [10] (fun i => ∃ k : Nat, k ≤ s.size ∧ i = .int .i64 (k : Int) ∧ Hid (∀ j, (h : j < s.size) → j < k → 48 ≤ s[j].toNat ∧ s[j].toNat < 48 + d)) (fun i => s.size - (intOf i).toNat)
  case atStart => exact ⟨0, by omega, rfl, fun j _ hj => by omega⟩
  case round =>
    obtain ⟨k, hk, rfl, HY⟩ := hrel
    by_cases hlt : k < s.size
    · obtain ⟨c, hc⟩ : ∃ c : Int, ∀ h : k < s.size, ((s[k]'h).toNat : Int) = c := ⟨((s[k]'hlt).toNat : Int), fun _ => rfl⟩
      have hc0 : 0 ≤ c := by rw [← hc hlt]; omega
      have hc1 : c < 256 := by have := (s[k]'hlt).toNat_lt; rw [← hc hlt]; omega
      have HC := Lib.hid (hc hlt)
      by_cases h1 : c < 48
      · go_wp2
        go_ret
        exact ⟨ret_bool (by rw [isWd_no hlt (by rw [HC.out]; omega)]; rfl), Below.refl _ _⟩
      · by_cases h2 : c ≥ 48 + d
        · go_wp2
          go_ret
          exact ⟨ret_bool (by rw [isWd_no hlt (by rw [HC.out]; omega)]; rfl), Below.refl _ _⟩
        · have h3 : ¬ (48 + (d : Int)) ≤ c := by omega
          go_wp2
          go_round
          case rel => exact ⟨k + 1, by omega, by go_num, fun j h hj => (Nat.lt_succ_iff_lt_or_eq.1 hj).elim (HY j h) (fun e => by subst e; have := HC.out; omega)⟩
          case measure => simp [intOf]; omega
    · have HE := Lib.hid (isWd_iff.2 (fun j h => HY j h (by omega)))
      go_wp2
      go_ret
      exact ⟨ret_bool (by rw [HE.out, Bool.true_and]), Below.refl _ _⟩
theorem specSizes (d n : Int) (w : World) : Calls Try.prog 89 #[.int .i64 d, .int .i64 n] w fun e w' => e = .returned (.bool (lev d n)) ∧ Below w.heap.size w w' := by
  cases h1 : inR d 1 3 <;> cases h2 : inR n 1 5 <;> by_cases h3 : d < 3 <;> by_cases h4 : n ≤ 4
  all_goals
    have HL := Lib.hid (show lev d n = (inR d 1 3 && (inR n 1 5 && (decide (d < 3) || decide (n ≤ 4)))) from rfl)
    go_enter Try.func89, Try.ntmps89
    go_wp2_with (first | (go_at_call 61; refine (specIn _ _ _ _).mono ?_; rintro e w1 ⟨rfl, n_, rfl⟩))
    go_ret
    exact ⟨ret_bool (by rw [HL.out]; simp [*]), by repeat (first | exact Below.refl _ _ | apply pw_below_drewN)⟩
theorem implLetters (d : Int) (w : World) : Calls Try.prog 93 #[.int .i64 d] w fun e w' => e = .returned (.bool (inR d 1 3)) ∧ ∃ n, w' = w.drewN n := by
  go_enter Try.func93, Try.ntmps93
  go_wp2_with (first | (go_at_call 58; refine (implIn _ _ _ _).mono ?_; rintro e w1 ⟨rfl, n_, rfl⟩))
  go_ret
  exact ⟨rfl, _, rfl⟩
theorem lev5 (d n : Int) : lev d n = (inR d 1 3 && (inR n 1 5 && (decide (d < 3) || decide (n < 5)))) := by
  unfold lev
  rw [show decide (n ≤ 4) = decide (n < 5) from decide_eq_decide.2 (by omega)]
theorem implLevel (d n : Int) (w : World) : Calls Try.prog 78 #[.int .i64 d, .int .i64 n] w fun e w' => e = .returned (.bool (lev d n)) ∧ Below w.heap.size w w' := by
  cases h1 : inR d 1 3 <;> cases h2 : inR n 1 5 <;> by_cases h3 : d < 3 <;> by_cases h4 : n < 5
  all_goals
    have HL := Lib.hid (lev5 d n)
    go_enter Try.func78, Try.ntmps78
    go_wp2_with (first | (go_at_call 93; refine (implLetters _ _).mono ?_; rintro e w1 ⟨rfl, n_, rfl⟩) | (go_at_call 58; refine (implIn _ _ _ _).mono ?_; rintro e w1 ⟨rfl, n_, rfl⟩) | (go_at_call 61; refine (specIn _ _ _ _).mono ?_; rintro e w1 ⟨rfl, n_, rfl⟩))
    go_ret
    exact ⟨ret_bool (by rw [HL.out]; simp [*]), by repeat (first | exact Below.refl _ _ | apply pw_below_drewN)⟩
theorem lev_nat' {d n : Nat} (h : lev d n = true) : ∃ d' n' : Nat, d = d' ∧ n = n' ∧ 1 ≤ d ∧ d ≤ 3 ∧ 1 ≤ n ∧ n ≤ 5 := by
  have := lev_iff.1 h
  exact ⟨d, n, rfl, rfl, by omega, by omega, by omega, by omega⟩
end Go.Proofs.Ytibjkjhpfmmjoaa.H



namespace Go.Proofs.Ytibjkjhpfmmjoaa.H
open Go.RowKit Go.Proofs.YtibjkjhpfmmjoaaW.PrintWords Go.Proofs.YtibjkjhpfmmjoaaW.PrintLast Go.Proofs.YtibjkjhpfmmjoaaW.PrintMore Go.Proofs.Ytibjkjhpfmmjoaa.M
attribute [local go_sem] max2_int min2_int max_two min_two max_three min_three max_four min_four
set_option linter.unusedVariables false
set_option linter.unusedSimpArgs false
set_option maxRecDepth 100000
end Go.Proofs.Ytibjkjhpfmmjoaa.H
namespace Go.Proofs.Ytibjkjhpfmmjoaa.M
def dig (q : Nat) : ByteArray := ⟨#[(48 + q).toUInt8]⟩
end Go.Proofs.Ytibjkjhpfmmjoaa.M
namespace Go.Proofs.Ytibjkjhpfmmjoaa.H
open Go.RowKit Go.Proofs.YtibjkjhpfmmjoaaW.PrintWords Go.Proofs.YtibjkjhpfmmjoaaW.PrintLast Go.Proofs.YtibjkjhpfmmjoaaW.PrintMore Go.Proofs.Ytibjkjhpfmmjoaa.M
attribute [local go_sem] max2_int min2_int max_two min_two max_three min_three max_four min_four
set_option linter.unusedVariables false
set_option linter.unusedSimpArgs false
set_option maxRecDepth 100000
theorem u8_small (x : Int) (h0 : 0 ≤ x) (h1 : x < 256) : IntKind.u8.wrap x = x := IntWalk.u8_in x ⟨h0, by omega⟩
/-- A row of one byte turned into a text. -/
theorem byte_string (W : World) (x : Int) : (convert 22 9 (.slice (some ⟨W.heap.size, 0, none⟩) 1 1)).run Try.prog (W.alloc (.cells #[.int .u8 x] 5)) = .ok (.string (strOfNums [x])) (W.alloc (.cells #[.int .u8 x] 5)) := by
  have h := own_lit W 0 5 .u8 [x] (Nat.zero_le _) (by simp)
  exact own_string Try.underlying22 Try.underlying5 Try.underlying9 h
theorem dig_str (q : Nat) (h : q < 10) : strOfNums [48 + (q : Int)] = dig q := by
  match q, h with
  | 0, _ => rfl
  | 1, _ => rfl
  | 2, _ => rfl
  | 3, _ => rfl
  | 4, _ => rfl
  | 5, _ => rfl
  | 6, _ => rfl
  | 7, _ => rfl
  | 8, _ => rfl
  | 9, _ => rfl
  | n + 10, h => omega
end Go.Proofs.Ytibjkjhpfmmjoaa.H
namespace Go.Proofs.Ytibjkjhpfmmjoaa.H
open Go.RowKit Go.Proofs.YtibjkjhpfmmjoaaW.PrintWords Go.Proofs.YtibjkjhpfmmjoaaW.PrintLast Go.Proofs.YtibjkjhpfmmjoaaW.PrintMore Go.Proofs.Ytibjkjhpfmmjoaa.M
attribute [local go_sem] max2_int min2_int max_two min_two max_three min_three max_four min_four
set_option linter.unusedVariables false
set_option linter.unusedSimpArgs false
set_option maxRecDepth 100000
/-- A series as a result: the value, and its row of one's own. -/
abbrev rowT (A : Option Addr) (c : Nat) (l : Ts) : As := rw' KT rfl 38 (.slice A l.length c) l
end Go.Proofs.Ytibjkjhpfmmjoaa.H


