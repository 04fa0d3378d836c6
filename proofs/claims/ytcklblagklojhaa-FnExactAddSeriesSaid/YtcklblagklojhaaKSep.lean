/- Own memory as a list of assertions with their blocks: what each step of a walk makes of it. Conditions: none. -/
import Derived.Test.YtcklblagklojhaaKBase
import Derived.Test.YtcklblagklojhaaWTab
import Derived.Laws.CopyRow
namespace Go.Proofs.Ytcklblagklojhaa.H
open Go.RowKit Go.Proofs.YtcklblagklojhaaW.PrintWords Go.Proofs.YtcklblagklojhaaW.PrintLast Go.Proofs.YtcklblagklojhaaW.PrintMore Go.Proofs.Ytcklblagklojhaa.M
set_option linter.unusedVariables false
set_option linter.unusedSimpArgs false

/-- An assertion on the blocks S. -/
structure As where
  S : Nat → Prop
  I : World → Prop
  mv : ∀ {W W' : World}, (∀ k, S k → W'.heap[k]? = W.heap[k]?) → I W → I W'
  lt : ∀ {W : World}, I W → ∀ k, S k → k < W.heap.size
/-- A block whose cells are known. -/
def bx (g t : Nat) (cs : Array Value) : As where
  S := fun k => k = g
  I := fun W => W.heap[g]? = some (.cells cs t (0, 0))
  mv := fun h hI => (h _ rfl).trans hI
  lt := fun h k hk => by subst hk; exact blk_lt h
theorem R_mv {α : Type} {d : Kd α} (hE : d.E = []) {e base : Nat} {v : Value} {xs : List α} {W W' : World} (hm : ∀ k, v.ownBlock = some k → W'.heap[k]? = W.heap[k]?) (h : d.R e W base (fun _ => True) v xs) : d.R e W' base (fun _ => True) v xs :=
  Kd.R_mono (Kd.R_step (Kd.R_tight hE h) (fun k hk _ => hm k hk.symm)) (fun _ _ => trivial)
/-- A row of one's own. -/
def rw' {α : Type} (d : Kd α) (hE : d.E = []) (e : Nat) (v : Value) (xs : List α) : As where
  S := fun k => v.ownBlock = some k
  I := fun W => d.R e W 0 (fun _ => True) v xs
  mv := fun h hI => R_mv hE h hI
  lt := fun h k hk => Kd.R_lt h k hk

/-- From w to W: the blocks S and new ones may have changed; L holds of W, each assertion on blocks of its own. -/
structure Mod (w W : World) (S : Nat → Prop) (L : List As) : Prop where
  os : W.os = w.os
  tape : W.tape = w.tape
  output : W.output = w.output
  size : w.heap.size ≤ W.heap.size
  block : ∀ k, k < w.heap.size → ¬ S k → W.heap[k]? = w.heap[k]?
  all : ∀ a ∈ L, a.I W ∧ ∀ k, a.S k → S k ∨ w.heap.size ≤ k
  dis : L.Pairwise fun a b => ∀ k, a.S k → b.S k → False
def No : Nat → Prop := fun _ => False
abbrev Sep (w W : World) (L : List As) : Prop := Mod w W No L
variable {w W W1 : World} {S S1 : Nat → Prop} {L R A : List As}
theorem Mod.below (h : Mod w W No L) : Below w.heap.size w W := ⟨h.os, h.tape, h.output, h.size, fun k hk => h.block k hk id⟩
theorem Sep.of (h : Below w.heap.size w W) : Sep w W [] := ⟨h.os, h.tape, h.output, h.size, fun k hk _ => h.block k hk, fun _ h => absurd h List.not_mem_nil, List.Pairwise.nil⟩
theorem Sep.refl (w : World) : Sep w w [] := .of (Below.refl _ _)
theorem Sep.one {a : As} (h : Below w.heap.size w W) (ha : a.I W) (hn : ∀ k, a.S k → w.heap.size ≤ k) : Sep w W [a] :=
  ⟨h.os, h.tape, h.output, h.size, fun k hk _ => h.block k hk, fun b hb => by obtain rfl := List.mem_singleton.1 hb; exact ⟨ha, fun k hk => .inr (hn k hk)⟩, List.pairwise_singleton _ _⟩
/-- One's own from the beginning. -/
theorem Mod.own {L : List As} (h : ∀ a ∈ L, a.I w) (hd : L.Pairwise fun a b => ∀ k, a.S k → b.S k → False) : Mod w w (fun k => ∃ a ∈ L, a.S k) L :=
  ⟨rfl, rfl, rfl, Nat.le_refl _, fun _ _ _ => rfl, fun a ha => ⟨h a ha, fun k hk => .inl ⟨a, ha, hk⟩⟩, hd⟩
theorem Mod.own1 {a : As} (h : a.I w) : Mod w w a.S [a] :=
  ⟨rfl, rfl, rfl, Nat.le_refl _, fun _ _ _ => rfl, fun b hb => by obtain rfl := List.mem_singleton.1 hb; exact ⟨h, fun k hk => .inl hk⟩, List.pairwise_singleton _ _⟩
/-- A choice of the assertions, by their places. -/
theorem Mod.sel (h : Mod w W S L) (is : List Nat) (hn : is.Nodup) : Mod w W S (is.filterMap (L[·]?)) := by
  refine ⟨h.os, h.tape, h.output, h.size, h.block, fun a ha => ?_, ?_⟩
  · obtain ⟨i, _, hi⟩ := List.mem_filterMap.1 ha
    exact h.all a (List.mem_of_getElem? hi)
  · rw [List.pairwise_filterMap]
    refine hn.imp ?_
    intro i j hij a ha b hb
    have hd := List.pairwise_iff_getElem.1 h.dis
    obtain ⟨hi, rfl⟩ := List.getElem?_eq_some_iff.1 ha
    obtain ⟨hj, rfl⟩ := List.getElem?_eq_some_iff.1 hb
    rcases Nat.lt_or_gt_of_ne hij with h1 | h1
    · exact hd i j hi hj h1
    · exact fun k h2 h3 => hd j i hj hi h1 k h3 h2
/-- A step that changes the blocks of A0 and makes new ones. -/
theorem Mod.step {A0 : List As} (h : Mod w W S (A0 ++ R)) (k : Mod W W1 S1 A) (hS : ∀ j, S1 j → ∃ a ∈ A0, a.S j) : Mod w W1 S (A ++ R) := by
  obtain ⟨hd1, hd2, hd3⟩ := List.pairwise_append.1 h.dis
  have far : ∀ a ∈ R, ∀ j, a.S j → j < W.heap.size ∧ ¬ S1 j := fun a ha j hj => by
    refine ⟨a.lt (h.all a (List.mem_append_right _ ha)).1 j hj, fun h1 => ?_⟩
    obtain ⟨b, hb, hbj⟩ := hS j h1
    exact hd3 b hb a ha j hbj hj
  have own : ∀ j, S1 j → S j ∨ w.heap.size ≤ j := fun j h1 => by
    obtain ⟨b, hb, hbj⟩ := hS j h1
    exact (h.all b (List.mem_append_left _ hb)).2 j hbj
  refine ⟨k.os.trans h.os, k.tape.trans h.tape, k.output.trans h.output, Nat.le_trans h.size k.size, fun j hj hs => ?_, fun a ha => ?_, ?_⟩
  · have h2 : ¬ S1 j := fun h1 => (own j h1).elim hs (fun h3 => by omega)
    exact (k.block j (Nat.lt_of_lt_of_le hj h.size) h2).trans (h.block j hj hs)
  · rcases List.mem_append.1 ha with ha | ha
    · obtain ⟨h1, h2⟩ := k.all a ha
      exact ⟨h1, fun j hj => (h2 j hj).elim (own j) (fun h3 => .inr (Nat.le_trans h.size h3))⟩
    · obtain ⟨h1, h2⟩ := h.all a (List.mem_append_right _ ha)
      exact ⟨a.mv (fun j hj => k.block j (far a ha j hj).1 (far a ha j hj).2) h1, h2⟩
  · refine List.pairwise_append.2 ⟨k.dis, hd2, fun a ha b hb j h1 h2 => ?_⟩
    obtain ⟨f1, f2⟩ := far b hb j h2
    exact ((k.all a ha).2 j h1).elim f2 (fun h3 => by omega)
/-- A step that only makes new blocks. -/
theorem Mod.new (h : Mod w W S L) (k : Sep W W1 A) : Mod w W1 S (A ++ L) := Mod.step (A0 := []) h k (fun _ h => h.elim)
theorem Mod.call (h : Mod w W S L) (k : Below W.heap.size W W1) : Mod w W1 S L := h.new (.of k)
theorem Mod.drew (h : Mod w W S L) : Mod w W.drew S L := h.call (below_drew (Below.refl _ _))
/-- The assertion at place i turns into another one on the same blocks. -/
theorem Mod.turn (h : Mod w W S L) {i : Nat} {a a' : As} (hi : L[i]? = some a) (k : Mod W W1 a.S [a']) (hs : ∀ j, a'.S j → a.S j ∨ W.heap.size ≤ j) : Mod w W1 S (L.set i a') := by
  obtain ⟨hi1, hi2⟩ := List.getElem?_eq_some_iff.1 hi
  have hall := List.pairwise_iff_getElem.1 h.dis
  have hI := fun j (hj : j < L.length) => h.all L[j] (List.getElem_mem hj)
  have far : ∀ j (hj : j < L.length), j ≠ i → ∀ q, L[j].S q → q < W.heap.size ∧ ¬ a.S q := fun j hj hne q hq => by
    refine ⟨L[j].lt (hI j hj).1 q hq, fun h1 => ?_⟩
    rw [← hi2] at h1
    rcases Nat.lt_or_gt_of_ne hne with h2 | h2
    · exact hall j i hj hi1 h2 q hq h1
    · exact hall i j hi1 hj h2 q h1 hq
  have own : ∀ j, a.S j → S j ∨ w.heap.size ≤ j := by rw [← hi2]; exact (hI i hi1).2
  refine ⟨k.os.trans h.os, k.tape.trans h.tape, k.output.trans h.output, Nat.le_trans h.size k.size, fun j hj hs => ?_, fun b hb => ?_, ?_⟩
  · have h2 : ¬ a.S j := fun h1 => (own j h1).elim hs (fun h3 => by omega)
    exact (k.block j (Nat.lt_of_lt_of_le hj h.size) h2).trans (h.block j hj hs)
  · obtain ⟨j, hj, rfl⟩ := List.getElem_of_mem hb
    rw [List.length_set] at hj
    by_cases hji : i = j
    · subst hji
      rw [List.getElem_set_self]
      obtain ⟨h1, h2⟩ := k.all a' (List.mem_singleton.2 rfl)
      exact ⟨h1, fun q hq => (h2 q hq).elim (own q) (fun h3 => .inr (Nat.le_trans h.size h3))⟩
    · rw [List.getElem_set_ne hji]
      exact ⟨L[j].mv (fun q hq => k.block q (far j hj (Ne.symm hji) q hq).1 (far j hj (Ne.symm hji) q hq).2) (hI j hj).1, (hI j hj).2⟩
  · refine List.pairwise_iff_getElem.2 fun x y hx hy hxy q h1 h2 => ?_
    rw [List.length_set] at hx hy
    rw [List.getElem_set] at h1 h2
    split at h1
    · rename_i e1
      split at h2
      · omega
      · rename_i e2
        obtain ⟨f1, f2⟩ := far y hy (Ne.symm e2) q h2
        exact (hs q h1).elim f2 (fun h3 => by omega)
    · rename_i e1
      split at h2
      · obtain ⟨f1, f2⟩ := far x hx (Ne.symm e1) q h1
        exact (hs q h2).elim f2 (fun h3 => by omega)
      · exact hall x y hx hy hxy q h1 h2
theorem Mod.at (h : Mod w W S L) {i : Nat} {a : As} (hi : L[i]? = some a) : a.I W := (h.all a (List.mem_of_getElem? hi)).1
theorem Mod.rowAt {α : Type} {d : Kd α} {hE : d.E = []} {e : Nat} {v : Value} {xs : List α} (h : Mod w W S L) (i : Nat) (hi : L[i]? = some (rw' d hE e v xs)) : d.R e W 0 (fun _ => True) v xs := h.at hi
theorem Mod.reads {α : Type} {d : Kd α} {hE : d.E = []} {e n c : Nat} {A : Option Addr} {xs : List α} (h : Mod w W S L) (i : Nat) (hi : L[i]? = some (rw' d hE e (.slice A n c) xs)) : d.C W A xs.length xs := (Kd.R_reads' (h.rowAt i hi)).2.2
theorem Mod.cap {α : Type} {d : Kd α} {hE : d.E = []} {e n c : Nat} {A : Option Addr} {xs : List α} (h : Mod w W S L) (i : Nat) (hi : L[i]? = some (rw' d hE e (.slice A n c) xs)) : n ≤ c := (Kd.R_reads' (h.rowAt i hi)).2.1
/-- An empty row has no block. -/
theorem Mod.nil {α : Type} {d : Kd α} {hE : d.E = []} {e : Nat} (h : Mod w W S L) : Mod w W S (rw' d hE e (.slice none ([] : List α).length 0) [] :: L) :=
  h.new (A := [rw' d hE e (.slice none ([] : List α).length 0) []]) ⟨rfl, rfl, rfl, Nat.le_refl _, fun _ _ _ => rfl, fun b hb => by obtain rfl := List.mem_singleton.1 hb; exact ⟨Kd.R_nil _ _ _ _ _, fun k hk => by have hk' : (Value.slice none 0 0).ownBlock = some k := hk; simp [Value.ownBlock] at hk'⟩, List.pairwise_singleton _ _⟩
/-- A cell of an own block. -/
theorem Mod.c (h : Mod w W S L) (i j : Nat) {g t : Nat} {cs : Array Value} {v : Value} (hi : L[i]? = some (bx g t cs)) (hj : cs[j]? = some v) : W.cell? ⟨g, j, none⟩ = some v := (blk_cell (h.at hi) j).trans hj
theorem Mod.f (h : Mod w W S L) (i j : Nat) {g t : Nat} {cs : Array Value} (hi : L[i]? = some (bx g t cs)) : W.frozen? ⟨g, j, none⟩ = false := blk_frozen (h.at hi) j
/-- What is told of memory that was there before. -/
theorem Mod.old (h : Mod w W No L) {a : Addr} {v : Value} (hc : w.cell? a = some v) : W.cell? a = some v := (h.below.cell (World.block_lt_of_cell? w a hc)).trans hc
theorem Mod.oldI (h : Mod w W No L) {a : As} (ha : a.I w) : a.I W := a.mv (fun k hk => h.block k (a.lt ha k hk) id) ha
theorem Mod.oldC {α : Type} {d : Kd α} {A : Option Addr} {n : Nat} {xs : List α} (h : Mod w W No L) (hc : d.C w A n xs) : d.C W A n xs := Kd.C_below hc h.below
theorem bx_c {g t : Nat} {cs : Array Value} (h : (bx g t cs).I W) (j : Nat) {v : Value} (hj : cs[j]? = some v) : W.cell? ⟨g, j, none⟩ = some v := (blk_cell h j).trans hj

/-! ### events, as steps -/
section
variable {P : Program} {ops : Array Oper} {o : Oper} {a : Act} {Q : Exit → Act → World → Prop} {Kc : Act → World → Prop} {rest : List Oper}
/-- The step of an operation. -/
def Stp (P : Program) (ops : Array Oper) (Q : Exit → Act → World → Prop) (o : Oper) (a : Act) (W : World) (Kc : Act → World → Prop) : Prop := if Region.wanted o (yielded ops a.tmps) = true then Oper.wp P o a W Kc Q else Kc (a.put o.dst undef) W
theorem wpList_stp (h : ∀ K : Act → World → Prop, (∀ a w, wpList P ops Q rest a w → K a w) → Stp P ops Q o a W K) : wpList P ops Q (o :: rest) a W := wpList_step h
theorem stp_box (hw : Region.wanted o (yielded ops a.tmps) = true) {cs : Array Value} {t : TypeId} (HS : Aside0 (Mod w W S L))
    (hrun : (execOp a.eval o).run P W = .ok (.value (.pointer (some ⟨W.heap.size, 0, none⟩))) (W.alloc (.cells cs t (0, 0))))
    (h : ∀ g w1, w.heap.size ≤ g → Aside0 (Mod w w1 S (bx g t cs :: L)) → Kc (a.put o.dst (.pointer (some ⟨g, 0, none⟩))) w1) : Stp P ops Q o a W Kc := by
  unfold Stp
  rw [if_pos hw]
  unfold Oper.wp
  rw [hrun]
  exact h _ _ HS.out.size ⟨HS.out.new (A := [bx W.heap.size t cs]) (Sep.one (below_alloc (Below.refl _ _) _) (blk_new W _) (fun k hk => by rw [show k = W.heap.size from hk]; exact Nat.le_refl _))⟩
/-- What a store of the cells vs at place j leaves of cs. -/
def over (cs : Array Value) (j : Nat) (vs : List Value) : Array Value := (cs.toList.take j ++ vs ++ cs.toList.drop (j + vs.length)).toArray
theorem setRow_I {g t : Nat} {cs cs' : Array Value} (h : W.heap[g]? = some (.cells cs t (0, 0))) : (W.setRow g cs').heap[g]? = some (.cells cs' t (0, 0)) := setRow_heap W g cs cs' t (0, 0) h
theorem setRow_far (W : World) (g : Nat) (cs : Array Value) (k : Nat) (hk : k ≠ g) : (W.setRow g cs).heap[k]? = W.heap[k]? := by
  unfold World.setRow
  simp only [Array.getElem?_modify]
  rw [if_neg (fun e => hk e.symm)]
theorem setRow_mod {g t : Nat} {cs cs' : Array Value} (h : W.heap[g]? = some (.cells cs t (0, 0))) : Mod W (W.setRow g cs') (fun k => k = g) [bx g t cs'] :=
  ⟨rfl, rfl, rfl, by simp [World.setRow], fun k _ hk => setRow_far W g cs' k hk, fun b hb => by obtain rfl := List.mem_singleton.1 hb; exact ⟨setRow_I h, fun k hk => .inl hk⟩, List.pairwise_singleton _ _⟩
theorem run_store_at {ty : TypeId} {u : Value} {g j t : Nat} {cur : Array Value} (hg : W.heap[g]? = some (.cells cur t (0, 0))) (hi : (P.info? ty).map (·.size) = some u.cells.size) (hl : j + u.cells.size ≤ cur.size) (h1 : u.cells.toList.all (·.oneCell') = true) :
    (storeVar ty ⟨g, j, none⟩ u).run P W = .ok () (W.setRow g (over cur j u.cells.toList)) := by
  have := run_storeCells_at P g j t u.cells.toList 0 cur W hg (by simpa using hl) (fun v hv => List.all_eq_true.1 h1 v hv)
  cases hq : P.info? ty with
  | none => simp [hq] at hi
  | some i =>
    have hs : u.cells.size = i.size := by simp [hq] at hi; omega
    simp only [Nat.add_zero] at this
    simp [storeVar, sizeOf, typeInfo, hq, hs, this, over]
theorem run_op_store {ty : TypeId} {x y : Operand} {u : Value} {ad : Addr} (ho : o.op = .store ty x y) (hx : a.eval x = .pointer (some ad)) (hy : a.eval y = u) {w1 : World} (hr : (storeVar ty ad u).run P W = .ok () w1) : (execOp a.eval o).run P W = .ok .skip w1 := by
  unfold execOp
  simp only [ho, hx, hy, Instr.storeAt, Instr.sureAddr, Sem.run_bind, Sem.run_pure, Result.andThen_ok, hr]
theorem stp_skip (hw : Region.wanted o (yielded ops a.tmps) = true) (hN : o.dst = none) (hrun : (execOp a.eval o).run P W = .ok .skip W1) (h : Kc a W1) : Stp P ops Q o a W Kc := by
  unfold Stp
  rw [if_pos hw]
  unfold Oper.wp
  rw [hrun]
  show Kc (a.put o.dst undef) W1
  rw [hN]
  exact h
/-- A store into an own block. -/
theorem stp_set (hw : Region.wanted o (yielded ops a.tmps) = true) (hN : o.dst = none) {ty : TypeId} {x y : Operand} (ho : o.op = .store ty x y) (HS : Aside0 (Mod w W S L)) (i j : Nat) {g t : Nat} {cs cs' : Array Value} {u : Value}
    (hi : L[i]? = some (bx g t cs)) (hx : a.eval x = .pointer (some ⟨g, j, none⟩)) (hy : a.eval y = u) (hsz : (P.info? ty).map (·.size) = some u.cells.size) (hl : (decide (j + u.cells.size ≤ cs.size) && u.cells.toList.all (·.oneCell')) = true) (hc : over cs j u.cells.toList = cs')
    (h : ∀ w1, Aside0 (Mod w w1 S (L.set i (bx g t cs'))) → Kc a w1) : Stp P ops Q o a W Kc := by
  rw [Bool.and_eq_true, decide_eq_true_eq] at hl
  subst hc
  have hg := HS.out.at hi
  exact stp_skip hw hN (run_op_store ho hx hy (run_store_at hg hsz hl.1 hl.2)) (h _ ⟨HS.out.turn hi (setRow_mod hg) (fun k hk => .inl hk)⟩)
/-- Makes a value, and memory of which nothing is told. -/
theorem stp_value {N : Option Tmp} {v : Value} (hw : Region.wanted o (yielded ops a.tmps) = true) (hN : o.dst = N) (hrun : (execOp a.eval o).run P W = .ok (.value v) W1) (h : Kc (a.put N v) W1) : Stp P ops Q o a W Kc := by
  subst hN
  exact value_ hw rfl hrun h
/-- make: a row of zeros. -/
theorem stp_make {α : Type} (d : Kd α) (hE : d.E = []) (e : Nat) (hw : Region.wanted o (yielded ops a.tmps) = true) (HS : Aside0 (Mod w W S L)) {N : Tmp} (hd : o.dst = some N) (t : TypeId) (x y : Operand) (ho : o.op = .makeSlice t x y) (m : Nat) (hx : a.eval x = .int .i64 (m : Int)) (hy : a.eval y = .int .i64 (m : Int))
    (ht : P.underlying t = some (.slice e)) (z : Value) (bytes : Nat) (hinfo : (P.info? e).map (fun i => (i.zero, i.size, i.bytes)) = some (some z, d.sz, bytes)) (hz : (decide (z.cells.size = d.sz) && (decide (0 < d.sz) && decide (0 < bytes))) = true) (z0 : α) (hzero : ∀ W base ok, d.M W base ok z0 z.cells.toList) (hl : m * bytes ≤ 281474976710656)
    (h : ∀ A c w1, Aside0 (Mod w w1 S (rw' d hE e (.slice A m c) (List.replicate m z0) :: L)) → Kc (a.put o.dst (.slice A m c)) w1) : Stp P ops Q o a W Kc := by
  simp only [Bool.and_eq_true, decide_eq_true_eq] at hz
  refine Kd.R_make_step d (w0 := W) 0 e hw hd t x y ho (m : Int) hx hy ht z bytes hinfo hz.1 hz.2.1 hz.2.2 z0 (ok := fun _ => True) (okp := fun _ => True) (hzero _ _ _) (fun _ _ => trivial) trivial (by omega) (by simpa using hl) (Below.refl _ _) (Nat.zero_le _) ?_
  intro v1 w1 hR hb hg hat
  simp only [Int.toNat_natCast] at hR
  obtain ⟨A, c, rfl⟩ := Kd.R_slice hR
  rw [List.length_replicate] at hR hat ⊢
  obtain ⟨b, hb1, hb2⟩ := hat
  exact h A c w1 ⟨HS.out.new (A := [rw' d hE e _ _]) (Sep.one ⟨hg.os, hg.tape, hg.output, hg.size, fun k hk => hg.block k hk (by simp)⟩ hR (fun k hk => by
    have hk' : (Value.slice A m c).ownBlock = some k := hk
    rw [hb1] at hk'
    injection hk' with hk'
    omega))⟩
section
variable {α : Type}
theorem row_turn {d : Kd α} {hE : d.E = []} {e : Nat} {v v1 : Value} {xs ys : List α} (h : Mod w W S L) {i : Nat} (hi : L[i]? = some (rw' d hE e v xs)) (hg : W.grownBy W1 v.ownBlock) (hR : d.R e W1 0 (fun _ => True) v1 ys) (hat : v1.ownBlock = v.ownBlock ∨ ∃ b, v1.ownBlock = some b ∧ W.heap.size ≤ b) : Mod w W1 S (L.set i (rw' d hE e v1 ys)) := by
  have hk : ∀ k, v1.ownBlock = some k → v.ownBlock = some k ∨ W.heap.size ≤ k := fun k hk => by
    rcases hat with e1 | ⟨b, e1, hb⟩
    · exact .inl (by rw [← e1]; exact hk)
    · rw [e1] at hk; injection hk with hk; exact .inr (by omega)
  exact h.turn hi ⟨hg.os, hg.tape, hg.output, hg.size, fun k h1 h2 => hg.block k h1 (fun e1 => h2 e1.symm), fun b hb => by obtain rfl := List.mem_singleton.1 hb; exact ⟨hR, hk⟩, List.pairwise_singleton _ _⟩ hk
/-- append of one element, whose literal has just been made, to an own row. -/
theorem stp_app (d : Kd α) (hE : d.E = []) (hw : Region.wanted o (yielded ops a.tmps) = true) (HS : Aside0 (Mod w W S L)) (i : Nat) {e : Nat} {v : Value} {xs : List α} (hi : L[i]? = some (rw' d hE e v xs)) (s x : Operand) (t e' : TypeId) (z : Value) (bytes : Nat)
    (ho : o.op = .call { callee := .builtin .append, args := #[s, x], argTypes := #[t, t] }) (ht : P.underlying t = some (.slice e)) (hinfo : (P.info? e).map (fun i => (i.zero, i.size, i.bytes)) = some (some z, d.sz, bytes)) (hz : (decide (z.cells.size = d.sz) && (decide (0 < d.sz) && decide (0 < bytes))) = true)
    (p : α) (cs : List Value) (hs : a.eval s = v) (hx : a.eval x = .slice (some ⟨W.heap.size, 0, none⟩) 1 1) (hp : ∀ W base ok, d.M W base ok p cs) (hl : (xs.length + 1) * bytes ≤ 140737488355328)
    (h : ∀ A c ys w1, Aside0 (ys = xs ++ [p]) → Aside0 (Mod w w1 S (L.set i (rw' d hE e (.slice A ys.length c) ys))) → Kc (a.put o.dst (.slice A ys.length c)) w1) : Stp P ops Q o a (W.alloc (.cells cs.toArray e)) Kc := by
  simp only [Bool.and_eq_true, decide_eq_true_eq] at hz
  refine Kd.R_append_step d (w0 := W) 0 hw s x t e z bytes ho ht hinfo hz.1 hz.2.1 hz.2.2 v xs p cs (fun _ => True) (fun _ => False) hs hx (hp _ _ _) (fun k hk => hk.elim) (fun _ _ => trivial) (HS.out.at hi) (Below.refl _ _) (Nat.zero_le _) hl ?_
  intro v1 w1 hR _ hg hat
  obtain ⟨A, c, rfl⟩ := Kd.R_slice hR
  exact h A c _ w1 ⟨rfl⟩ ⟨row_turn HS.out hi hg hR hat⟩
/-- append of a row that is read to an own row. -/
theorem stp_rows (d : Kd α) (hE : d.E = []) (hKM : ∀ W base ok x cs, d.K W x cs → d.M W base ok x cs) (hw : Region.wanted o (yielded ops a.tmps) = true) (HS : Aside0 (Mod w W S L)) (i : Nat) {e : Nat} {v : Value} {xs : List α} (hi : L[i]? = some (rw' d hE e v xs)) (s x : Operand) (t : TypeId) (z : Value) (bytes : Nat)
    (ho : o.op = .call { callee := .builtin .append, args := #[s, x], argTypes := #[t, t] }) (ht : P.underlying t = some (.slice e)) (hinfo : (P.info? e).map (fun i => (i.zero, i.size, i.bytes)) = some (some z, d.sz, bytes)) (hz : (decide (z.cells.size = d.sz) && (decide (0 < d.sz) && decide (0 < bytes))) = true)
    {A : Option Addr} {m c : Nat} (zs : List α) (hs : a.eval s = v) (hx : a.eval x = .slice A m c) (hr : d.C W A m zs) (hl : (xs.length + m) * bytes ≤ 140737488355328)
    (h : ∀ A c ys w1, Aside0 (ys = xs ++ zs) → Aside0 (Mod w w1 S (L.set i (rw' d hE e (.slice A ys.length c) ys))) → Kc (a.put o.dst (.slice A ys.length c)) w1) : Stp P ops Q o a W Kc := by
  simp only [Bool.and_eq_true, decide_eq_true_eq] at hz
  refine Kd.R_append_rows_step d (w0 := W) 0 hw s x t e z bytes ho ht hinfo hz.1 hz.2.1 hz.2.2 v xs zs A m c (fun _ => True) (fun _ => False) hs hx (HS.out.at hi) hr (fun x cs hk => hKM _ _ _ x cs hk) (fun k hk => hk.elim) (fun _ _ => trivial) (Below.refl _ _) (Nat.zero_le _) hl ?_
  intro v1 w1 hR _ hg hat
  obtain ⟨A, c, rfl⟩ := Kd.R_slice hR
  exact h A c _ w1 ⟨rfl⟩ ⟨row_turn HS.out hi hg hR hat⟩
/-- A literal slice. -/
theorem stp_lit (d : Kd α) (hE : d.E = []) (e : Nat) (hw : Region.wanted o (yielded ops a.tmps) = true) (HS : Aside0 (Mod w W S L)) {xs : List α} {inner : List Value}
    (hrun : (execOp a.eval o).run P W = .ok (.value (.slice (some ⟨W.heap.size, 0, none⟩) xs.length xs.length)) (W.alloc (.cells inner.toArray e))) (hrep : ∀ W base ok, Reps (d.M W base ok) d.sz xs inner) (hm : xs.length ≤ 9223372036854775807)
    (h : ∀ A c w1, Aside0 (Mod w w1 S (rw' d hE e (.slice A xs.length c) xs :: L)) → Kc (a.put o.dst (.slice A xs.length c)) w1) : Stp P ops Q o a W Kc := by
  have hR : d.R e (W.alloc (.cells inner.toArray e)) 0 (fun _ => True) (.slice (some ⟨W.heap.size, 0, none⟩) xs.length xs.length) xs := by
    refine ⟨fun _ _ => trivial, inner, ?_, hrep _ _ _⟩
    have h2 := World.ownsRow_lit (base := 0) (e := e) (size := d.sz) W inner.toArray xs.length (Nat.zero_le _) (by simpa [maxLen] using hm) (by simpa using (hrep W 0 (fun _ => True)).1)
    simpa using h2
  unfold Stp
  rw [if_pos hw]
  unfold Oper.wp
  rw [hrun]
  exact h _ _ _ ⟨HS.out.new (A := [rw' d hE e _ xs]) (Sep.one (below_alloc (Below.refl _ _) _) hR (fun k hk => by
    have hk' : (Value.slice (some ⟨W.heap.size, 0, none⟩) xs.length xs.length).ownBlock = some k := hk
    simp only [Value.ownBlock, Option.some.injEq] at hk'
    omega))⟩
end
end
end Go.Proofs.Ytcklblagklojhaa.H
