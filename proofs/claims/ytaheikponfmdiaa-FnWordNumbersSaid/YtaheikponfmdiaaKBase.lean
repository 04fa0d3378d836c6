/- Plain words for the walks. Conditions: none. -/
import Derived.Test.YtaheikponfmdiaaProg
import Derived.Below
import Derived.Deep.Draws
import Derived.Deep.AppendLies
import Derived.Maps.AppendAt
import Derived.OwnWalk
import Derived.Laws.BytesArg
import Derived.Laws.MakeOwn
import Derived.Laws.OwnMore
import Derived.Deep.OwnRows
import Derived.Tactics
import Derived.Lib.ConvBytes
import Derived.Laws.Slices
import Derived.WalkKit
import Derived.KernelRfl
import Derived.RowKit3
import Derived.Deep.LoopGhost
import Derived.Deep.QuietTactic
import Derived.BigQuiet
import Derived.WideLaws
import Derived.Deep.DeepCutAuto
import Derived.Deep.CutBlock
import Derived.Deep.RegionHeld3
import Derived.Laws.Rows
import Derived.Lib.AppendStr
import Derived.ArgAppend
import Derived.Laws.IdiomCopy
import Derived.OrdersHeld
import Derived.Laws.BitsLemmas
import Derived.RowKit
import Derived.Lib.Hide
import Derived.Test.YtaheikponfmdiaaWWords
import Derived.Test.YtaheikponfmdiaaWLast
import Derived.Test.YtaheikponfmdiaaWMore
import Derived.Test.YtaheikponfmdiaaKMath
import Derived.Test.YtaheikponfmdiaaWRepsOne
import Derived.Lib.Bytealg
import Derived.Lib.Walk
import Derived.Deep.Slices
import Derived.Deep.Strs
import Derived.Lib.SmallJoins
import Derived.OpenShut
/- Small words for the walks: worlds that have grown, returned values. Conditions: none. -/
namespace Go.Proofs.Ytaheikponfmdiaa.H
open Go.RowKit Go.Proofs.YtaheikponfmdiaaW.PrintWords
set_option linter.unusedVariables false
set_option linter.unusedSimpArgs false

theorem ret_int {k : IntKind} {a b : Int} (h : a = b) : Ending.returned (.int k a) = .returned (.int k b) := by rw [h]
theorem ret_bool {a b : Bool} (h : a = b) : Ending.returned (.bool a) = .returned (.bool b) := by rw [h]
theorem ret_str {a b : ByteArray} (h : a = b) : Ending.returned (.string a) = .returned (.string b) := by rw [h]
/-- What stood before stands behind. -/
theorem bcell {W w1 : World} (hb : Below W.heap.size W w1) : (∀ b o, b < W.heap.size → w1.cell? ⟨b, o, none⟩ = W.cell? ⟨b, o, none⟩) ∧ (∀ b o, b < W.heap.size → w1.frozen? ⟨b, o, none⟩ = W.frozen? ⟨b, o, none⟩) :=
  ⟨fun b o h => hb.cell (p := ⟨b, o, none⟩) h, fun b o h => hb.frozen (p := ⟨b, o, none⟩) h⟩
theorem below_pair {w w1 w2 : World} (h : Below w.heap.size w w1) (k : Below w1.heap.size w1 w2) : Below w.heap.size w w2 := below_then h h.size k
/-- What a region that draws its order keeps: everything below, four cells among it. -/
theorem keep4 {V W : World} {a0 a1 a2 a3 : Addr} {v0 v1 v2 v3 : Value} (h : Below V.heap.size V W) (h0 : V.cell? a0 = some v0) (h1 : V.cell? a1 = some v1) (h2 : V.cell? a2 = some v2) (h3 : V.cell? a3 = some v3) :
    Hid (Below V.heap.size V W) ∧ W.cell? a0 = some v0 ∧ W.cell? a1 = some v1 ∧ W.cell? a2 = some v2 ∧ W.cell? a3 = some v3 :=
  ⟨h, pw_cell_below h h0, pw_cell_below h h1, pw_cell_below h h2, pw_cell_below h h3⟩
theorem held_call {V W w1 : World} {B : Prop} (h : Hid (Below V.heap.size V W) ∧ B) (hb : Below W.heap.size W w1) : Below V.heap.size V w1 := below_pair h.1 hb
theorem held_alloc {V W : World} {B : Prop} (h : Hid (Below V.heap.size V W) ∧ B) (o : Obj) : Below V.heap.size V (W.alloc o) := below_alloc h.1 o
theorem held_set {V W : World} {B : Prop} (h : Hid (Below V.heap.size V W) ∧ B) {g j : Nat} (hg : V.heap.size ≤ g) (u : Value) : Below V.heap.size V (W.setCell ⟨g, j, none⟩ u) := below_set h.1 hg
theorem held_drew {V W : World} {B : Prop} (h : Hid (Below V.heap.size V W) ∧ B) : Below V.heap.size V W.drew := below_drew1 h.1
/-- Quiet calls behind quiet regions. -/
theorem quiet_add {P : Program} {f : FuncId} {args : Array Value} {w : World} {a n : Nat} {v : Value}
    (h : Calls P f args (w.drewN (a + n)) fun e w' => e = .returned v ∧ ∃ m, w' = (w.drewN (a + n)).drewN m) :
    Calls P f args (w.drewN (a + n)) fun e w'' => e = .returned v ∧ ∃ m, w'' = w.drewN (a + m) :=
  h.mono fun _ _ ⟨he, m, hm⟩ => ⟨he, n + m, by rw [hm, World.drewN_drewN, Nat.add_assoc]⟩
theorem drawn_step {w w1 : World} {n : Nat} (h : ∃ m, w1 = w.drewN m) : ∃ m, w1.drewN n = w.drewN m := by
  obtain ⟨m, rfl⟩ := h
  exact ⟨_, World.drewN_drewN ..⟩
theorem drawn_none (w : World) : ∃ m, w = w.drewN m := ⟨0, rfl⟩
theorem byte_eq0 (s t : ByteArray) (k j : Nat) (hk : k < s.size) (hj : j < t.size) : ((s[k].toNat : Int) = (t[j].toNat : Int)) ↔ s.data.toList.getD k 0 = t.data.toList.getD j 0 := by
  have e : ∀ (s : ByteArray) (k : Nat) (h : k < s.size), s.data.toList.getD k 0 = s[k] := fun s k h => by
    rw [List.getD_eq_getElem?_getD, List.getElem?_eq_getElem (by simpa using h)]; rfl
  rw [e s k hk, e t j hj, ← UInt8.toNat_inj]; omega
/-- Cells of a row of whole numbers of one's own, by a natural index. -/
theorem R_cellN {k : IntKind} {e base g n cap : Nat} {ok : Nat → Prop} {W : World} {xs : List Int} (h : (Kd.int k).R e W base ok (.slice (some ⟨g, 0, none⟩) n cap) xs) (i : Nat) (hi : i < n) : W.cell? ⟨g, i, none⟩ = some (.int k (xs.getD i 0)) ∧ W.frozen? ⟨g, i, none⟩ = false := by
  have := Kd.R_celln 0 h (i : Int) (by omega) (by omega)
  simpa only [Int.toNat_natCast, rdOf] using this
theorem R_putN {k : IntKind} {e base g n cap : Nat} {ok : Nat → Prop} {W : World} {xs : List Int} (h : (Kd.int k).R e W base ok (.slice (some ⟨g, 0, none⟩) n cap) xs) (i : Nat) (x : Int) : (Kd.int k).R e (W.setCell ⟨g, i, none⟩ (.int k x)) base ok (.slice (some ⟨g, 0, none⟩) n cap) (xs.set i x) := by
  have h1 := Kd.R_putn h (i : Int) x
  rw [Int.toNat_natCast] at h1
  exact h1
end Go.Proofs.Ytaheikponfmdiaa.H

/- Rows of terms in memory: the printed kinds and our own. Conditions: none. -/
namespace Go.Proofs.Ytaheikponfmdiaa.H
open Go.RowKit Go.Proofs.YtaheikponfmdiaaW.PrintWords Go.Proofs.YtaheikponfmdiaaW.PrintLast Go.Proofs.YtaheikponfmdiaaW.PrintMore Go.Proofs.Ytaheikponfmdiaa.M
set_option linter.unusedVariables false
/-- A term's three cells. -/
abbrev KT : Kd Tm := Kd.pair Kd.string (Kd.pair (Kd.int .i64) (Kd.int .i64))
section
variable {α β : Type} {d1 : Kd α} {d2 : Kd β}
theorem C_map {w : World} {A : Option Addr} {n : Nat} (g : β → α) (hs : d1.sz = d2.sz) (hk : ∀ x c, d1.K w (g x) c ↔ d2.K w x c) {l : List β} : d1.C w A n (l.map g) ↔ d2.C w A n l := by
  unfold Kd.C ReadsRow
  rw [List.length_map, hs]
  refine and_congr Iff.rfl (and_congr Iff.rfl (imp_congr Iff.rfl (exists_congr fun a => and_congr Iff.rfl ?_)))
  constructor
  · intro h j p hj
    obtain ⟨c, h1, h2, h3⟩ := h j (g p) (by rw [List.getElem?_map, hj]; rfl)
    exact ⟨c, h1, (hk _ _).1 h2, h3⟩
  · intro h j p hj
    rw [List.getElem?_map, Option.map_eq_some_iff] at hj
    obtain ⟨q, hq, rfl⟩ := hj
    obtain ⟨c, h1, h2, h3⟩ := h j q hq
    exact ⟨c, h1, (hk _ _).2 h2, h3⟩
theorem R_map {w : World} {e base : Nat} {ok : Nat → Prop} {v : Value} (g : β → α) (hs : d1.sz = d2.sz) (hk : ∀ ok x c, d1.M w base ok (g x) c ↔ d2.M w base ok x c) {l : List β} : d1.R e w base ok v (l.map g) ↔ d2.R e w base ok v l := by
  unfold Kd.R OwnRow
  refine and_congr Iff.rfl ?_
  rw [List.length_map, hs]
  refine exists_congr fun inner => and_congr Iff.rfl ?_
  unfold Reps
  rw [List.length_map]
  refine and_congr Iff.rfl ⟨fun h j p hj => ?_, fun h j p hj => ?_⟩
  · exact (hk _ _ _).1 (h j (g p) (by rw [List.getElem?_map, hj]; rfl))
  · rw [List.getElem?_map, Option.map_eq_some_iff] at hj
    obtain ⟨q, hq, rfl⟩ := hj
    exact (hk _ _ _).2 (h j q hq)
end
end Go.Proofs.Ytaheikponfmdiaa.H

/- What comparing two strings returns: proved by walking the library's code. Conditions: none. -/
namespace Go.Proofs.Ytaheikponfmdiaa.H
open Go.RowKit Go.Proofs.YtaheikponfmdiaaW.PrintWords
set_option linter.unusedVariables false
set_option maxRecDepth 100000
theorem bytealgCompare (a b : ByteArray) (w : World) : Calls Try.prog 198 #[.string a, .string b] w fun e w' => e = .returned (.int .i64 (Lib.compareBytes a.data.toList b.data.toList)) ∧ w' = w := by
  go_enter Try.func198, Try.ntmps198
  go_wp2
  rw [run_callFunc_extern Try.func199 (by kernel_rfl) (by kernel_rfl) (by kernel_rfl) (e := Extern.BytealgCompare.compare) (by kernel_rfl), Lib.run_compareString]
  simp only [Result.andThen]
  rw [Oper.upon_value]
  go_wp2
  go_ret
  exact ⟨rfl, rfl⟩
theorem stringsCompare (a b : ByteArray) (w : World) : Calls Try.prog 195 #[.string a, .string b] w fun e w' => e = .returned (.int .i64 (Lib.compareBytes a.data.toList b.data.toList)) ∧ ∃ n, w' = w.drewN n := by
  go_enter Try.func195, Try.ntmps195
  go_wp2_with (first | (go_at_call 198; refine (bytealgCompare _ _ _).mono ?_; rintro e w' ⟨rfl, rfl⟩))
  go_ret
  exact ⟨rfl, by first | exact ⟨_, rfl⟩ | exact drawn_none _⟩
end Go.Proofs.Ytaheikponfmdiaa.H

/- What a series that can be read holds. Conditions: none. -/
namespace Go.Proofs.Ytaheikponfmdiaa.H
open Go.RowKit Go.ChangeShapes Go.ChangeAt Go.Joins Go.Deep Go.ChangeMaps Go.Proofs.YtaheikponfmdiaaW.PrintWords Go.Proofs.YtaheikponfmdiaaW.PrintLast Go.Proofs.YtaheikponfmdiaaW.PrintMore Go.Proofs.Ytaheikponfmdiaa.M
set_option linter.unusedVariables false
set_option linter.unusedSimpArgs false

/-- A reading of a value of type t tells what its cells are of kind d, and Q of it. -/
def OpensQ (P : Program) {α : Type} (d : Kd α) (t : TypeId) (Q : α → Prop) : Prop := ∀ (H : Type) (enc : TypeId × Value → H) (w : World) (fuel : Nat) (cs : List Value) (x : DataW H × List MemPlace), DataW.trod enc P w 0 (fun _ => true) true fuel t cs = some x → ∃ a : α, Q a ∧ d.K w a cs
section
variable {P : Program} {t e : TypeId} {α β : Type}
theorem opensQ_int {k : IntKind} (ht : P.underlying t = some (.int k)) : OpensQ P (Kd.int k) t (fun _ => True) := fun H enc w fuel cs x h => by
  obtain ⟨n, hn, _, _⟩ := DataW.trod_int ht h
  exact ⟨n, trivial, hn⟩
theorem opensQ_string (ht : P.underlying t = some .string) : OpensQ P Kd.string t (fun s => s.size ≤ maxLen) := fun H enc w fuel cs x h => by
  obtain ⟨n, hn, _, hs⟩ := DataW.trod_string ht h
  exact ⟨n, hs, hn⟩
theorem opensQ_pair {da : Kd α} {db : Kd β} {Qa : α → Prop} {Qb : β → Prop} {f0 f1 : Field} (ht : P.underlying t = some (.struct #[f0, f1])) (ho0 : f0.offset = 0) (ho1 : f1.offset = da.sz) (h0 : P.cellsOf f0.type = da.sz) (h1 : P.cellsOf f1.type = db.sz) (hc : P.cellsOf t = da.sz + db.sz)
    (a0 : OpensQ P da f0.type Qa) (a1 : OpensQ P db f1.type Qb) : OpensQ P (Kd.pair da db) t (fun p => Qa p.1 ∧ Qb p.2) := fun H enc w fuel cs x h => by
  obtain ⟨y0, y1, n, _, hl, e0, e1⟩ := trod_struct2 ht h
  rw [ho0, h0, List.drop_zero] at e0
  rw [ho1, h1] at e1
  obtain ⟨x0, q0, k0⟩ := a0 _ _ _ _ _ _ e0
  obtain ⟨x1, q1, k1⟩ := a1 _ _ _ _ _ _ e1
  refine ⟨(x0, x1), ⟨q0, q1⟩, cs.take da.sz, (cs.drop da.sz).take db.sz, ?_, k0, k1⟩
  rw [List.take_of_length_le (l := cs.drop da.sz) (by rw [List.length_drop, hl, hc]; omega), List.take_append_drop]
theorem opensQ_slice [Inhabited α] {d : Kd α} {Q : α → Prop} (ht : P.underlying t = some (.slice e)) (hc : P.cellsOf e = d.sz) (ha : OpensQ P d e Q) : OpensQ P (Kd.slice e d) t (fun l => ∀ a ∈ l, Q a) := fun H enc w fuel cs x h => by
  rcases open_slice ht h with ⟨rfl, _⟩ | ⟨a, len, cap, m, n, D, Pl, rfl, hb, hl, hm, hmm, _, hx⟩
  · exact ⟨[], by simp, none, 0, rfl, Nat.le_refl _, Kd.C_nil d w⟩
  · simp only [if_true] at hmm
    obtain ⟨f, hf⟩ := choose_lt (n := m) (p := fun i y => Q y ∧ ∃ c : List Value, c.length = d.sz ∧ d.K w y c ∧ ∀ i' u, c[i']? = some u → w.cell? (a.add (i * d.sz + i')) = some u) (fun i hi => by
      obtain ⟨c, h1, h2⟩ := hx i hi
      rw [hc] at h1
      obtain ⟨_, hlen, hcell⟩ := World.cells?_some h1
      obtain ⟨y, qy, hy⟩ := ha _ _ _ _ _ _ h2
      refine ⟨y, qy, c, hlen, hy, fun i' u hu => ?_⟩
      have hi' : i' < d.sz := by rw [← hlen]; exact (List.getElem?_eq_some_iff.1 hu).1
      have := hcell i' hi'
      rw [← hu, ← this]
      rw [Go.Deep.add_add])
    refine ⟨(List.range len).map f, ?_, some a, cap, by simp, by simpa using hl, by simp, ?_, fun _ => ⟨a, rfl, fun j p hj => ?_⟩⟩
    · intro y hy
      obtain ⟨i, hi, rfl⟩ := List.mem_map.1 hy
      exact (hf i (by have := List.mem_range.1 hi; omega)).1
    · simp only [List.length_map, List.length_range]
      unfold maxLen at hm; omega
    · obtain ⟨hj1, hj2⟩ := List.getElem?_eq_some_iff.1 hj
      simp only [List.length_map, List.length_range] at hj1
      obtain ⟨_, c, h1, h2, h3⟩ := hf j (by omega)
      refine ⟨c, h1, ?_, h3⟩
      rw [List.getElem_map, List.getElem_range] at hj2
      rw [← hj2]; exact h2
end
set_option maxRecDepth 100000 in
/-- An argument of type Series. -/
theorem openSeries {H : Type} {enc : TypeId × Value → H} {W : World} {r : Reach} {b0 : Nat} {v : Value} {dd : DataW H} {p : List MemPlace} (hval : Value.okWide Try.prog W r b0 32 v) (h : DataW.Trod enc Try.prog W 0 (fun _ => true) true 32 v dd p) :
    ∃ d n A c, ∃ l : Ts, v = .agg #[.int .i64 d, .int .i64 n, .slice A l.length c] ∧ l.length ≤ c ∧ (∀ t ∈ l, t.1.size ≤ 9223372036854775807) ∧ KT.C W A l.length l := by
  obtain ⟨v0, v1, v2, y0, y1, y2, n, rfl, _, _, h0, h1, h2⟩ := open_agg3 Try.underlying32 (by kernel_rfl) (by kernel_rfl) hval h
  obtain ⟨d, e0, _, _⟩ := DataW.trod_int Try.underlying2 h0
  obtain ⟨m, e1, _, _⟩ := DataW.trod_int Try.underlying2 h1
  obtain rfl : v0 = .int .i64 d := by simpa using e0
  obtain rfl : v1 = .int .i64 m := by simpa using e1
  have ho : OpensQ Try.prog (Kd.slice 143 KT) 30 (fun l => ∀ a ∈ l, a.1.size ≤ maxLen ∧ True ∧ True) :=
    opensQ_slice Try.underlying30 (by kernel_rfl) (opensQ_pair Try.underlying143 rfl rfl (by kernel_rfl) (by kernel_rfl) (by kernel_rfl) (opensQ_string Try.underlying9) (opensQ_pair Try.underlying141 rfl rfl (by kernel_rfl) (by kernel_rfl) (by kernel_rfl) (opensQ_int Try.underlying2) (opensQ_int Try.underlying2)))
  obtain ⟨l, hq, A, c, e2, hl, hr⟩ := ho _ _ _ _ _ _ h2
  obtain rfl : v2 = .slice A l.length c := by simpa using e2
  exact ⟨d, m, A, c, l, rfl, hl, fun t ht => (hq t ht).1, hr⟩
end Go.Proofs.Ytaheikponfmdiaa.H

