/- Small words for the walks: worlds that have grown, returned values. Conditions: none. -/
import Derived.Test.YtcklblagklojhaaProg
import Derived.Below
import Derived.Deep.Draws
import Derived.Deep.AppendLies
import Derived.Maps.AppendAt
import Derived.OwnWalk
import Derived.Laws.BytesArg
import Derived.Laws.MakeOwn
import Derived.Laws.OwnMore
import Derived.Deep.OwnRows
import Derived.Tactics
import Derived.Lib.ConvBytes
import Derived.Laws.Slices
import Derived.WalkKit
import Derived.KernelRfl
import Derived.RowKit3
import Derived.Deep.LoopGhost
import Derived.Deep.QuietTactic
import Derived.BigQuiet
import Derived.WideLaws
import Derived.Deep.DeepCutAuto
import Derived.Deep.CutBlock
import Derived.Deep.RegionHeld3
import Derived.Laws.Rows
import Derived.Lib.AppendStr
import Derived.ArgAppend
import Derived.Laws.IdiomCopy
import Derived.OrdersHeld
import Derived.Laws.BitsLemmas
import Derived.RowKit
import Derived.Lib.Hide
import Derived.Test.YtcklblagklojhaaWWords
import Derived.Test.YtcklblagklojhaaWLast
import Derived.Test.YtcklblagklojhaaWMore
import Derived.Test.YtcklblagklojhaaHMath
namespace Go.Proofs.Ytcklblagklojhaa.H
open Go.RowKit Go.Proofs.YtcklblagklojhaaW.PrintWords
set_option linter.unusedVariables false
set_option linter.unusedSimpArgs false

theorem ret_int {k : IntKind} {a b : Int} (h : a = b) : Ending.returned (.int k a) = .returned (.int k b) := by rw [h]
theorem ret_bool {a b : Bool} (h : a = b) : Ending.returned (.bool a) = .returned (.bool b) := by rw [h]
theorem ret_str {a b : ByteArray} (h : a = b) : Ending.returned (.string a) = .returned (.string b) := by rw [h]
/-- What stood before stands behind. -/
theorem bcell {W w1 : World} (hb : Below W.heap.size W w1) : (∀ b o, b < W.heap.size → w1.cell? ⟨b, o, none⟩ = W.cell? ⟨b, o, none⟩) ∧ (∀ b o, b < W.heap.size → w1.frozen? ⟨b, o, none⟩ = W.frozen? ⟨b, o, none⟩) :=
  ⟨fun b o h => hb.cell (p := ⟨b, o, none⟩) h, fun b o h => hb.frozen (p := ⟨b, o, none⟩) h⟩
theorem below_pair {w w1 w2 : World} (h : Below w.heap.size w w1) (k : Below w1.heap.size w1 w2) : Below w.heap.size w w2 := below_then h h.size k
/-- What a region that draws its order keeps: everything below, four cells among it. -/
theorem keep4 {V W : World} {a0 a1 a2 a3 : Addr} {v0 v1 v2 v3 : Value} (h : Below V.heap.size V W) (h0 : V.cell? a0 = some v0) (h1 : V.cell? a1 = some v1) (h2 : V.cell? a2 = some v2) (h3 : V.cell? a3 = some v3) :
    Hid (Below V.heap.size V W) ∧ W.cell? a0 = some v0 ∧ W.cell? a1 = some v1 ∧ W.cell? a2 = some v2 ∧ W.cell? a3 = some v3 :=
  ⟨h, pw_cell_below h h0, pw_cell_below h h1, pw_cell_below h h2, pw_cell_below h h3⟩
theorem held_call {V W w1 : World} {B : Prop} (h : Hid (Below V.heap.size V W) ∧ B) (hb : Below W.heap.size W w1) : Below V.heap.size V w1 := below_pair h.1 hb
theorem held_alloc {V W : World} {B : Prop} (h : Hid (Below V.heap.size V W) ∧ B) (o : Obj) : Below V.heap.size V (W.alloc o) := below_alloc h.1 o
theorem held_set {V W : World} {B : Prop} (h : Hid (Below V.heap.size V W) ∧ B) {g j : Nat} (hg : V.heap.size ≤ g) (u : Value) : Below V.heap.size V (W.setCell ⟨g, j, none⟩ u) := below_set h.1 hg
theorem held_drew {V W : World} {B : Prop} (h : Hid (Below V.heap.size V W) ∧ B) : Below V.heap.size V W.drew := below_drew1 h.1
/-- Quiet calls behind quiet regions. -/
theorem quiet_add {P : Program} {f : FuncId} {args : Array Value} {w : World} {a n : Nat} {v : Value}
    (h : Calls P f args (w.drewN (a + n)) fun e w' => e = .returned v ∧ ∃ m, w' = (w.drewN (a + n)).drewN m) :
    Calls P f args (w.drewN (a + n)) fun e w'' => e = .returned v ∧ ∃ m, w'' = w.drewN (a + m) :=
  h.mono fun _ _ ⟨he, m, hm⟩ => ⟨he, n + m, by rw [hm, World.drewN_drewN, Nat.add_assoc]⟩
theorem drawn_step {w w1 : World} {n : Nat} (h : ∃ m, w1 = w.drewN m) : ∃ m, w1.drewN n = w.drewN m := by
  obtain ⟨m, rfl⟩ := h
  exact ⟨_, World.drewN_drewN ..⟩
theorem drawn_none (w : World) : ∃ m, w = w.drewN m := ⟨0, rfl⟩
theorem byte_eq0 (s t : ByteArray) (k j : Nat) (hk : k < s.size) (hj : j < t.size) : ((s[k].toNat : Int) = (t[j].toNat : Int)) ↔ s.data.toList.getD k 0 = t.data.toList.getD j 0 := by
  have e : ∀ (s : ByteArray) (k : Nat) (h : k < s.size), s.data.toList.getD k 0 = s[k] := fun s k h => by
    rw [List.getD_eq_getElem?_getD, List.getElem?_eq_getElem (by simpa using h)]; rfl
  rw [e s k hk, e t j hj, ← UInt8.toNat_inj]; omega
/-- Cells of a row of whole numbers of one's own, by a natural index. -/
theorem R_cellN {k : IntKind} {e base g n cap : Nat} {ok : Nat → Prop} {W : World} {xs : List Int} (h : (Kd.int k).R e W base ok (.slice (some ⟨g, 0, none⟩) n cap) xs) (i : Nat) (hi : i < n) : W.cell? ⟨g, i, none⟩ = some (.int k (xs.getD i 0)) ∧ W.frozen? ⟨g, i, none⟩ = false := by
  have := Kd.R_celln 0 h (i : Int) (by omega) (by omega)
  simpa only [Int.toNat_natCast, rdOf] using this
theorem R_putN {k : IntKind} {e base g n cap : Nat} {ok : Nat → Prop} {W : World} {xs : List Int} (h : (Kd.int k).R e W base ok (.slice (some ⟨g, 0, none⟩) n cap) xs) (i : Nat) (x : Int) : (Kd.int k).R e (W.setCell ⟨g, i, none⟩ (.int k x)) base ok (.slice (some ⟨g, 0, none⟩) n cap) (xs.set i x) := by
  have h1 := Kd.R_putn h (i : Int) x
  rw [Int.toNat_natCast] at h1
  exact h1
end Go.Proofs.Ytcklblagklojhaa.H
