/- Plain facts and contracts of functions that the law's walk uses. Conditions: those that stand in each statement. -/
import Derived.WalkKit
import Derived.Test.YtbijcpnimkcfcaaDoorProg
import Derived.Below
import Derived.Deep.Draws
import Derived.Deep.AppendLies
import Derived.Maps.AppendAt
import Derived.OwnWalk
import Derived.Laws.BytesArg
import Derived.Laws.MakeOwn
import Derived.Laws.OwnMore
import Derived.Deep.OwnRows
import Derived.Tactics
import Derived.Lib.ConvBytes
import Derived.Laws.Slices
import Derived.KernelRfl
import Derived.RowKit3
import Derived.Deep.LoopGhost
import Derived.Deep.QuietTactic
import Derived.BigQuiet
import Derived.WideLaws
import Derived.Deep.DeepCutAuto
import Derived.Deep.CutBlock
import Derived.Deep.RegionHeld3
import Derived.Laws.Rows
import Derived.Lib.AppendStr
import Derived.ArgAppend
import Derived.Laws.IdiomCopy
import Derived.OrdersHeld
import Derived.Laws.BitsLemmas
import Derived.RowKit
import Derived.Lib.Hide
import Derived.Test.YtbijcpnimkcfcaaDoorWWords
import Derived.Test.YtbijcpnimkcfcaaDoorWLast
import Derived.Test.YtbijcpnimkcfcaaDoorWMore
import Derived.Test.YtbijcpnimkcfcaaDoorWRepsOne
import Derived.Lib.Bytealg
import Derived.Lib.Walk
import Derived.Deep.Slices
import Derived.Deep.Strs
import Derived.Lib.SmallJoins
import Derived.OpenShut
import Derived.Test.YtbijcpnimkcfcaaDoorWTab
import Derived.Laws.CopyRow
import Derived.WalkSpells
import Derived.Deep.RegionWith
import Derived.Lib.IndexBytes
set_option linter.unusedVariables false
set_option linter.unusedSimpArgs false

/- Plain facts on whole numbers and fractions: greatest common divisors, lowest terms, what fits. Nothing of the program. Conditions: none. -/
namespace Go.Proofs.YtbijcpnimkcfcaaDoor.M
set_option linter.unusedVariables false
set_option linter.unusedSimpArgs false

theorem gcd_tmod (a b : Int) : Int.gcd b (a.tmod b) = Int.gcd a b := by
  unfold Int.gcd
  rw [Int.natAbs_tmod, Nat.gcd_comm, ← Nat.gcd_rec, Nat.gcd_comm]
theorem tmod_lt {a b : Int} (h : b ≠ 0) : (a.tmod b).natAbs < b.natAbs := by
  rw [Int.natAbs_tmod]; exact Nat.mod_lt _ (by omega)
theorem tmod_le (a b : Int) : (a.tmod b).natAbs ≤ a.natAbs := by
  rw [Int.natAbs_tmod]; exact Nat.mod_le _ _

def inR (a b c : Int) : Bool := decide (b ≤ a ∧ a ≤ c)
theorem inR_iff (a b c : Int) : inR a b c = true ↔ b ≤ a ∧ a ≤ c := by simp [inR]
def isFr (a b : Int) : Bool := inR b 1 1000000000 && (inR a (-1000000000) 1000000000 && decide ((Int.gcd a b : Int) = 1))
theorem isFr_iff (a b : Int) : isFr a b = true ↔ 1 ≤ b ∧ b ≤ 1000000000 ∧ -1000000000 ≤ a ∧ a ≤ 1000000000 ∧ Int.gcd a b = 1 := by
  unfold isFr
  simp only [Bool.and_eq_true, inR_iff, decide_eq_true_eq]
  omega

def sgd (a b : Int) : Int := if b < 0 then -(Int.gcd a b : Int) else (Int.gcd a b : Int)
def rnum (a b : Int) : Int := Int.tdiv a (sgd a b)
def rden (a b : Int) : Int := Int.tdiv b (sgd a b)
def okN (a b : Int) : Bool := isFr (rnum a b) (rden a b)
def frac (a b : Int) : Option (Int × Int) := if b ≠ 0 ∧ okN a b = true then some (rnum a b, rden a b) else none

abbrev Fr := Int × Int
def fr (a : Fr) : Bool := isFr a.1 a.2
def add (a b : Fr) : Option Fr := frac (a.1 * b.2 + b.1 * a.2) (a.2 * b.2)
def told : Option Fr → Fr × Int
  | some c => (c, 0)
  | none => ((0, 0), 3)
theorem wrap_id {x : Int} (h0 : -9223372036854775808 ≤ x) (h1 : x ≤ 9223372036854775807) : Go.RowKit.wrap64 x = x := by
  unfold Go.RowKit.wrap64; omega
end Go.Proofs.YtbijcpnimkcfcaaDoor.M

/- The plain words of n letters: what spec.l01Words makes. -/
namespace Go.Proofs.YtbijcpnimkcfcaaDoor.M
end Go.Proofs.YtbijcpnimkcfcaaDoor.M

/- Plain facts on words, their order and their numbers, and on rows of terms. Nothing of the program. Conditions: none. -/
namespace Go.Proofs.YtbijcpnimkcfcaaDoor.M
set_option linter.unusedVariables false
set_option linter.unusedSimpArgs false

/-! ### words -/
def bl (s : ByteArray) : List UInt8 := s.data.toList
theorem bl_len (s : ByteArray) : (bl s).length = s.size := by simp [bl]
def isWL (d : Nat) (l : List UInt8) : Bool := l.all fun c => decide (48 ≤ c.toNat ∧ c.toNat < 48 + d)
def isWd (d : Nat) (s : ByteArray) : Bool := isWL d (bl s)
/-! ### the order -/
abbrev bless := Go.Op.bytesLess
theorem bless_trans : ∀ {a b c : List UInt8}, bless a b = true → bless b c = true → bless a c = true
  | _, [], _, h, _ => by cases ‹List UInt8› <;> simp [bless, Go.Op.bytesLess] at h
  | [], b :: y, [], _, k => by simp [bless, Go.Op.bytesLess] at k
  | [], b :: y, c :: z, _, _ => by simp [bless, Go.Op.bytesLess]
  | a :: x, b :: y, [], _, k => by simp [bless, Go.Op.bytesLess] at k
  | a :: x, b :: y, c :: z, h, k => by
    simp only [bless, Go.Op.bytesLess, Bool.or_eq_true, Bool.and_eq_true, decide_eq_true_eq, beq_iff_eq] at h k ⊢
    rcases h with h | ⟨rfl, h⟩
    · rcases k with k | ⟨rfl, k⟩
      · exact .inl (UInt8.lt_trans h k)
      · exact .inl h
    · rcases k with k | ⟨rfl, k⟩
      · exact .inl k
      · exact .inr ⟨rfl, bless_trans h k⟩
def befL (v w : List UInt8) : Bool := if v.length = w.length then bless v w else decide (v.length < w.length)
def bef (v w : ByteArray) : Bool := befL (bl v) (bl w)
theorem befL_trans {a b c : List UInt8} (h : befL a b = true) (k : befL b c = true) : befL a c = true := by
  unfold befL at *
  by_cases h1 : a.length = b.length <;> by_cases h2 : b.length = c.length
  · rw [if_pos h1] at h; rw [if_pos h2] at k; rw [if_pos (h1.trans h2)]; exact bless_trans h k
  · rw [if_neg h2] at k; rw [if_neg (by omega)]; simp at k ⊢; omega
  · rw [if_neg h1] at h; rw [if_neg (by omega)]; simp at h ⊢; omega
  · rw [if_neg h1] at h; rw [if_neg h2] at k; simp at h k; rw [if_neg (by omega)]; simp; omega
theorem bef_trans {a b c : ByteArray} (h : bef a b = true) (k : bef b c = true) : bef a c = true := befL_trans h k
/-! ### rows of terms -/
abbrev Tm := ByteArray × Int × Int
abbrev Ts := List Tm
def isTm (d n : Nat) (t : Tm) : Bool := isWd d t.1 && (decide (t.1.size ≤ n) && (isFr t.2.1 t.2.2 && decide (t.2.1 ≠ 0)))
def asc : Ts → Bool
  | a :: b :: r => bef a.1 b.1 && asc (b :: r)
  | _ => true
def isTs (d n : Nat) (l : Ts) : Bool := l.all (isTm d n) && asc l
def Srt (l : Ts) : Prop := l.Pairwise fun a b => bef a.1 b.1 = true
theorem asc_srt : ∀ {l : Ts}, asc l = true ↔ Srt l
  | [] => by simp [asc, Srt]
  | [a] => by simp [asc, Srt]
  | a :: b :: r => by
    have ih := asc_srt (l := b :: r)
    unfold Srt at *
    rw [List.pairwise_cons]
    simp only [asc, Bool.and_eq_true]
    constructor
    · rintro ⟨h1, h2⟩
      have h3 := ih.1 h2
      refine ⟨fun c hc => ?_, h3⟩
      rcases List.mem_cons.1 hc with rfl | hc
      · exact h1
      · exact bef_trans h1 ((List.pairwise_cons.1 h3).1 c hc)
    · rintro ⟨h1, h2⟩
      exact ⟨h1 b List.mem_cons_self, ih.2 h2⟩
theorem isTs_iff {d n : Nat} {l : Ts} : isTs d n l = true ↔ (∀ t ∈ l, isTm d n t = true) ∧ Srt l := by
  unfold isTs; rw [Bool.and_eq_true, List.all_eq_true, asc_srt]
theorem asc_at : ∀ {l : Ts}, asc l = true ↔ ∀ j, (h : j + 1 < l.length) → bef (l[j]'(by omega)).1 l[j + 1].1 = true
  | [] => by simp [asc]
  | [a] => by simp [asc]
  | a :: b :: r => by
    have ih := asc_at (l := b :: r)
    simp only [asc, Bool.and_eq_true, ih]
    constructor
    · rintro ⟨h1, h2⟩ j hj
      cases j with
      | zero => exact h1
      | succ j => exact h2 j (by simpa using hj)
    · intro h
      exact ⟨h 0 (by simp), fun j hj => h (j + 1) (by simpa using hj)⟩
theorem isTs_at {d n : Nat} {l : Ts} : isTs d n l = true ↔ ∀ j, (h : j < l.length) → isTm d n l[j] = true ∧ (∀ (h0 : 0 < j), bef (l[j - 1]'(by omega)).1 l[j].1 = true) := by
  unfold isTs
  rw [Bool.and_eq_true, List.all_eq_true, asc_at]
  constructor
  · rintro ⟨h1, h2⟩ j hj
    refine ⟨h1 _ (List.getElem_mem _), fun h0 => ?_⟩
    have := h2 (j - 1) (by omega)
    simpa only [Nat.sub_add_cancel h0] using this
  · intro h
    refine ⟨fun t ht => ?_, fun j hj => ?_⟩
    · obtain ⟨j, hj, rfl⟩ := List.getElem_of_mem ht
      exact (h j hj).1
    · have := (h (j + 1) hj).2 (by omega)
      simpa using this

theorem isTm_fr {d n : Nat} {t : Tm} (h : isTm d n t = true) : fr t.2 = true ∧ t.2.1 ≠ 0 ∧ isWd d t.1 = true ∧ t.1.size ≤ n := by
  simp only [isTm, Bool.and_eq_true, decide_eq_true_eq] at h
  exact ⟨h.2.2.1, h.2.2.2, h.1, h.2.1⟩
/-! ### fractions once more -/
/-! ### putting -/
def put : Ts → ByteArray → Fr → Option Ts
  | [], w, a => some (if a.1 = 0 then [] else [(w, a)])
  | t :: r, w, a => if bef t.1 w = true then (put r w a).map (t :: ·) else if t.1 = w then (add t.2 a).map (fun s => if s.1 = 0 then r else (w, s) :: r) else some (if a.1 = 0 then t :: r else (w, a) :: t :: r)
end Go.Proofs.YtbijcpnimkcfcaaDoor.M

/- Which sizes and rows of terms make a series. Conditions: none. -/
namespace Go.Proofs.YtbijcpnimkcfcaaDoor.M
def lev (d n : Int) : Bool := inR d 1 3 && (inR n 1 5 && (decide (d < 3) || decide (n ≤ 4)))
theorem lev_iff {d n : Int} : lev d n = true ↔ (1 ≤ d ∧ d ≤ 3) ∧ (1 ≤ n ∧ n ≤ 5) ∧ (d < 3 ∨ n ≤ 4) := by simp [lev, inR]
def isS (d n : Int) (l : Ts) : Bool := lev d n && isTs d.toNat n.toNat l
def bnd (l : Ts) : Bool := decide (l.length ≤ 1048576) && l.all fun t => decide (t.1.size ≤ 1048576)
theorem bnd_iff {l : Ts} : bnd l = true ↔ l.length ≤ 1048576 ∧ ∀ t ∈ l, t.1.size ≤ 1048576 := by simp [bnd]
end Go.Proofs.YtbijcpnimkcfcaaDoor.M


/- Small words for the walks: worlds that have grown, returned values. Conditions: none. -/
namespace Go.Proofs.YtbijcpnimkcfcaaDoor.H
open Go.RowKit Go.Proofs.YtbijcpnimkcfcaaDoorW.PrintWords
set_option linter.unusedVariables false
set_option linter.unusedSimpArgs false

theorem ret_int {k : IntKind} {a b : Int} (h : a = b) : Ending.returned (.int k a) = .returned (.int k b) := by rw [h]
theorem ret_bool {a b : Bool} (h : a = b) : Ending.returned (.bool a) = .returned (.bool b) := by rw [h]
theorem ret_str {a b : ByteArray} (h : a = b) : Ending.returned (.string a) = .returned (.string b) := by rw [h]
theorem drawn_none (w : World) : ∃ m, w = w.drewN m := ⟨0, rfl⟩
end Go.Proofs.YtbijcpnimkcfcaaDoor.H

/- Rows of terms in memory: the printed kinds and our own. Conditions: none. -/
namespace Go.Proofs.YtbijcpnimkcfcaaDoor.H
open Go.RowKit Go.Proofs.YtbijcpnimkcfcaaDoorW.PrintWords Go.Proofs.YtbijcpnimkcfcaaDoorW.PrintLast Go.Proofs.YtbijcpnimkcfcaaDoorW.PrintMore Go.Proofs.YtbijcpnimkcfcaaDoor.M
set_option linter.unusedVariables false
abbrev KT : Kd Tm := Kd.pair Kd.string (Kd.pair (Kd.int .i64) (Kd.int .i64))
section
variable {α β : Type} {d1 : Kd α} {d2 : Kd β}
end
end Go.Proofs.YtbijcpnimkcfcaaDoor.H

/- What comparing two strings returns: proved by walking the library's code. Conditions: none. -/
namespace Go.Proofs.YtbijcpnimkcfcaaDoor.H
open Go.RowKit Go.Proofs.YtbijcpnimkcfcaaDoorW.PrintWords
set_option linter.unusedVariables false
set_option maxRecDepth 100000
theorem bytealgCompare (a b : ByteArray) (w : World) : Calls Tryd.prog 133 #[.string a, .string b] w fun e w' => e = .returned (.int .i64 (Lib.compareBytes a.data.toList b.data.toList)) ∧ w' = w := by
  go_enter Tryd.func133, Tryd.ntmps133
  go_wp2
  rw [run_callFunc_extern Tryd.func149 (by kernel_rfl) (by kernel_rfl) (by kernel_rfl) (e := Extern.BytealgCompare.compare) (by kernel_rfl), Lib.run_compareString]
  simp only [Result.andThen]
  rw [Oper.upon_value]
  go_wp2
  go_ret
  exact ⟨rfl, rfl⟩
theorem stringsCompare (a b : ByteArray) (w : World) : Calls Tryd.prog 114 #[.string a, .string b] w fun e w' => e = .returned (.int .i64 (Lib.compareBytes a.data.toList b.data.toList)) ∧ ∃ n, w' = w.drewN n := by
  go_enter Tryd.func114, Tryd.ntmps114
  go_wp2_with (first | (go_at_call 133; refine (bytealgCompare _ _ _).mono ?_; rintro e w' ⟨rfl, rfl⟩))
  go_ret
  exact ⟨rfl, by first | exact ⟨_, rfl⟩ | exact drawn_none _⟩
end Go.Proofs.YtbijcpnimkcfcaaDoor.H

/- What a series that can be read holds. Conditions: none. -/
namespace Go.Proofs.YtbijcpnimkcfcaaDoor.H
open Go.RowKit Go.ChangeShapes Go.ChangeAt Go.Joins Go.Deep Go.ChangeMaps Go.Proofs.YtbijcpnimkcfcaaDoorW.PrintWords Go.Proofs.YtbijcpnimkcfcaaDoorW.PrintLast Go.Proofs.YtbijcpnimkcfcaaDoorW.PrintMore Go.Proofs.YtbijcpnimkcfcaaDoor.M
set_option linter.unusedVariables false
set_option linter.unusedSimpArgs false

def OpensQ (P : Program) {α : Type} (d : Kd α) (t : TypeId) (Q : α → Prop) : Prop := ∀ (H : Type) (enc : TypeId × Value → H) (w : World) (fuel : Nat) (cs : List Value) (x : DataW H × List MemPlace), DataW.trod enc P w 0 (fun _ => true) true fuel t cs = some x → ∃ a : α, Q a ∧ d.K w a cs
section
variable {P : Program} {t e : TypeId} {α β : Type}
theorem opensQ_int {k : IntKind} (ht : P.underlying t = some (.int k)) : OpensQ P (Kd.int k) t (fun _ => True) := fun H enc w fuel cs x h => by
  obtain ⟨n, hn, _, _⟩ := DataW.trod_int ht h
  exact ⟨n, trivial, hn⟩
theorem opensQ_string (ht : P.underlying t = some .string) : OpensQ P Kd.string t (fun s => s.size ≤ maxLen) := fun H enc w fuel cs x h => by
  obtain ⟨n, hn, _, hs⟩ := DataW.trod_string ht h
  exact ⟨n, hs, hn⟩
theorem opensQ_pair {da : Kd α} {db : Kd β} {Qa : α → Prop} {Qb : β → Prop} {f0 f1 : Field} (ht : P.underlying t = some (.struct #[f0, f1])) (ho0 : f0.offset = 0) (ho1 : f1.offset = da.sz) (h0 : P.cellsOf f0.type = da.sz) (h1 : P.cellsOf f1.type = db.sz) (hc : P.cellsOf t = da.sz + db.sz)
    (a0 : OpensQ P da f0.type Qa) (a1 : OpensQ P db f1.type Qb) : OpensQ P (Kd.pair da db) t (fun p => Qa p.1 ∧ Qb p.2) := fun H enc w fuel cs x h => by
  obtain ⟨y0, y1, n, _, hl, e0, e1⟩ := trod_struct2 ht h
  rw [ho0, h0, List.drop_zero] at e0
  rw [ho1, h1] at e1
  obtain ⟨x0, q0, k0⟩ := a0 _ _ _ _ _ _ e0
  obtain ⟨x1, q1, k1⟩ := a1 _ _ _ _ _ _ e1
  refine ⟨(x0, x1), ⟨q0, q1⟩, cs.take da.sz, (cs.drop da.sz).take db.sz, ?_, k0, k1⟩
  rw [List.take_of_length_le (l := cs.drop da.sz) (by rw [List.length_drop, hl, hc]; omega), List.take_append_drop]
theorem opensQ_slice [Inhabited α] {d : Kd α} {Q : α → Prop} (ht : P.underlying t = some (.slice e)) (hc : P.cellsOf e = d.sz) (ha : OpensQ P d e Q) : OpensQ P (Kd.slice e d) t (fun l => ∀ a ∈ l, Q a) := fun H enc w fuel cs x h => by
  rcases open_slice ht h with ⟨rfl, _⟩ | ⟨a, len, cap, m, n, D, Pl, rfl, hb, hl, hm, hmm, _, hx⟩
  · exact ⟨[], by simp, none, 0, rfl, Nat.le_refl _, Kd.C_nil d w⟩
  · simp only [if_true] at hmm
    obtain ⟨f, hf⟩ := choose_lt (n := m) (p := fun i y => Q y ∧ ∃ c : List Value, c.length = d.sz ∧ d.K w y c ∧ ∀ i' u, c[i']? = some u → w.cell? (a.add (i * d.sz + i')) = some u) (fun i hi => by
      obtain ⟨c, h1, h2⟩ := hx i hi
      rw [hc] at h1
      obtain ⟨_, hlen, hcell⟩ := World.cells?_some h1
      obtain ⟨y, qy, hy⟩ := ha _ _ _ _ _ _ h2
      refine ⟨y, qy, c, hlen, hy, fun i' u hu => ?_⟩
      have hi' : i' < d.sz := by rw [← hlen]; exact (List.getElem?_eq_some_iff.1 hu).1
      have := hcell i' hi'
      rw [← hu, ← this]
      rw [Go.Deep.add_add])
    refine ⟨(List.range len).map f, ?_, some a, cap, by simp, by simpa using hl, by simp, ?_, fun _ => ⟨a, rfl, fun j p hj => ?_⟩⟩
    · intro y hy
      obtain ⟨i, hi, rfl⟩ := List.mem_map.1 hy
      exact (hf i (by have := List.mem_range.1 hi; omega)).1
    · simp only [List.length_map, List.length_range]
      unfold maxLen at hm; omega
    · obtain ⟨hj1, hj2⟩ := List.getElem?_eq_some_iff.1 hj
      simp only [List.length_map, List.length_range] at hj1
      obtain ⟨_, c, h1, h2, h3⟩ := hf j (by omega)
      refine ⟨c, h1, ?_, h3⟩
      rw [List.getElem_map, List.getElem_range] at hj2
      rw [← hj2]; exact h2
end
set_option maxRecDepth 100000 in
theorem openSeries {H : Type} {enc : TypeId × Value → H} {W : World} {r : Reach} {b0 : Nat} {v : Value} {dd : DataW H} {p : List MemPlace} (hval : Value.okWide Tryd.prog W r b0 31 v) (h : DataW.Trod enc Tryd.prog W 0 (fun _ => true) true 31 v dd p) :
    ∃ d n A c, ∃ l : Ts, v = .agg #[.int .i64 d, .int .i64 n, .slice A l.length c] ∧ l.length ≤ c ∧ (∀ t ∈ l, t.1.size ≤ 9223372036854775807) ∧ KT.C W A l.length l := by
  obtain ⟨v0, v1, v2, y0, y1, y2, n, rfl, _, _, h0, h1, h2⟩ := open_agg3 Tryd.underlying31 (by kernel_rfl) (by kernel_rfl) hval h
  obtain ⟨d, e0, _, _⟩ := DataW.trod_int Tryd.underlying2 h0
  obtain ⟨m, e1, _, _⟩ := DataW.trod_int Tryd.underlying2 h1
  obtain rfl : v0 = .int .i64 d := by simpa using e0
  obtain rfl : v1 = .int .i64 m := by simpa using e1
  have ho : OpensQ Tryd.prog (Kd.slice 96 KT) 29 (fun l => ∀ a ∈ l, a.1.size ≤ maxLen ∧ True ∧ True) :=
    opensQ_slice Tryd.underlying29 (by kernel_rfl) (opensQ_pair Tryd.underlying96 rfl rfl (by kernel_rfl) (by kernel_rfl) (by kernel_rfl) (opensQ_string Tryd.underlying9) (opensQ_pair Tryd.underlying23 rfl rfl (by kernel_rfl) (by kernel_rfl) (by kernel_rfl) (opensQ_int Tryd.underlying2) (opensQ_int Tryd.underlying2)))
  obtain ⟨l, hq, A, c, e2, hl, hr⟩ := ho _ _ _ _ _ _ h2
  obtain rfl : v2 = .slice A l.length c := by simpa using e2
  exact ⟨d, m, A, c, l, rfl, hl, fun t ht => (hq t ht).1, hr⟩
end Go.Proofs.YtbijcpnimkcfcaaDoor.H


namespace Go.Proofs.YtbijcpnimkcfcaaDoor.H
open Go.RowKit Go.Proofs.YtbijcpnimkcfcaaDoorW.PrintWords Go.Proofs.YtbijcpnimkcfcaaDoorW.PrintLast Go.Proofs.YtbijcpnimkcfcaaDoorW.PrintMore Go.Proofs.YtbijcpnimkcfcaaDoor.M
set_option linter.unusedVariables false
set_option linter.unusedSimpArgs false
structure As where
  S : Nat → Prop
  I : World → Prop
  mv : ∀ {W W' : World}, (∀ k, S k → W'.heap[k]? = W.heap[k]?) → I W → I W'
  lt : ∀ {W : World}, I W → ∀ k, S k → k < W.heap.size
def bx (g t : Nat) (cs : Array Value) : As where
  S := fun k => k = g
  I := fun W => W.heap[g]? = some (.cells cs t (0, 0))
  mv := fun h hI => (h _ rfl).trans hI
  lt := fun h k hk => by subst hk; exact blk_lt h
theorem R_mv {α : Type} {d : Kd α} (hE : d.E = []) {e base : Nat} {v : Value} {xs : List α} {W W' : World} (hm : ∀ k, v.ownBlock = some k → W'.heap[k]? = W.heap[k]?) (h : d.R e W base (fun _ => True) v xs) : d.R e W' base (fun _ => True) v xs :=
  Kd.R_mono (Kd.R_step (Kd.R_tight hE h) (fun k hk _ => hm k hk.symm)) (fun _ _ => trivial)
def rw' {α : Type} (d : Kd α) (hE : d.E = []) (e : Nat) (v : Value) (xs : List α) : As where
  S := fun k => v.ownBlock = some k
  I := fun W => d.R e W 0 (fun _ => True) v xs
  mv := fun h hI => R_mv hE h hI
  lt := fun h k hk => Kd.R_lt h k hk
structure Mod (w W : World) (S : Nat → Prop) (L : List As) : Prop where
  os : W.os = w.os
  tape : W.tape = w.tape
  output : W.output = w.output
  size : w.heap.size ≤ W.heap.size
  block : ∀ k, k < w.heap.size → ¬ S k → W.heap[k]? = w.heap[k]?
  all : ∀ a ∈ L, a.I W ∧ ∀ k, a.S k → S k ∨ w.heap.size ≤ k
  dis : L.Pairwise fun a b => ∀ k, a.S k → b.S k → False
def No : Nat → Prop := fun _ => False
abbrev Sep (w W : World) (L : List As) : Prop := Mod w W No L
variable {w W W1 : World} {S S1 : Nat → Prop} {L R A : List As}
theorem Mod.below (h : Mod w W No L) : Below w.heap.size w W := ⟨h.os, h.tape, h.output, h.size, fun k hk => h.block k hk id⟩
theorem Sep.of (h : Below w.heap.size w W) : Sep w W [] := ⟨h.os, h.tape, h.output, h.size, fun k hk _ => h.block k hk, fun _ h => absurd h List.not_mem_nil, List.Pairwise.nil⟩
theorem Sep.refl (w : World) : Sep w w [] := .of (Below.refl _ _)
theorem Sep.one {a : As} (h : Below w.heap.size w W) (ha : a.I W) (hn : ∀ k, a.S k → w.heap.size ≤ k) : Sep w W [a] :=
  ⟨h.os, h.tape, h.output, h.size, fun k hk _ => h.block k hk, fun b hb => by obtain rfl := List.mem_singleton.1 hb; exact ⟨ha, fun k hk => .inr (hn k hk)⟩, List.pairwise_singleton _ _⟩
theorem Mod.own {L : List As} (h : ∀ a ∈ L, a.I w) (hd : L.Pairwise fun a b => ∀ k, a.S k → b.S k → False) : Mod w w (fun k => ∃ a ∈ L, a.S k) L :=
  ⟨rfl, rfl, rfl, Nat.le_refl _, fun _ _ _ => rfl, fun a ha => ⟨h a ha, fun k hk => .inl ⟨a, ha, hk⟩⟩, hd⟩
theorem Mod.sel (h : Mod w W S L) (is : List Nat) (hn : is.Nodup) : Mod w W S (is.filterMap (L[·]?)) := by
  refine ⟨h.os, h.tape, h.output, h.size, h.block, fun a ha => ?_, ?_⟩
  · obtain ⟨i, _, hi⟩ := List.mem_filterMap.1 ha
    exact h.all a (List.mem_of_getElem? hi)
  · rw [List.pairwise_filterMap]
    refine hn.imp ?_
    intro i j hij a ha b hb
    have hd := List.pairwise_iff_getElem.1 h.dis
    obtain ⟨hi, rfl⟩ := List.getElem?_eq_some_iff.1 ha
    obtain ⟨hj, rfl⟩ := List.getElem?_eq_some_iff.1 hb
    rcases Nat.lt_or_gt_of_ne hij with h1 | h1
    · exact hd i j hi hj h1
    · exact fun k h2 h3 => hd j i hj hi h1 k h3 h2
theorem Mod.step {A0 : List As} (h : Mod w W S (A0 ++ R)) (k : Mod W W1 S1 A) (hS : ∀ j, S1 j → ∃ a ∈ A0, a.S j) : Mod w W1 S (A ++ R) := by
  obtain ⟨hd1, hd2, hd3⟩ := List.pairwise_append.1 h.dis
  have far : ∀ a ∈ R, ∀ j, a.S j → j < W.heap.size ∧ ¬ S1 j := fun a ha j hj => by
    refine ⟨a.lt (h.all a (List.mem_append_right _ ha)).1 j hj, fun h1 => ?_⟩
    obtain ⟨b, hb, hbj⟩ := hS j h1
    exact hd3 b hb a ha j hbj hj
  have own : ∀ j, S1 j → S j ∨ w.heap.size ≤ j := fun j h1 => by
    obtain ⟨b, hb, hbj⟩ := hS j h1
    exact (h.all b (List.mem_append_left _ hb)).2 j hbj
  refine ⟨k.os.trans h.os, k.tape.trans h.tape, k.output.trans h.output, Nat.le_trans h.size k.size, fun j hj hs => ?_, fun a ha => ?_, ?_⟩
  · have h2 : ¬ S1 j := fun h1 => (own j h1).elim hs (fun h3 => by omega)
    exact (k.block j (Nat.lt_of_lt_of_le hj h.size) h2).trans (h.block j hj hs)
  · rcases List.mem_append.1 ha with ha | ha
    · obtain ⟨h1, h2⟩ := k.all a ha
      exact ⟨h1, fun j hj => (h2 j hj).elim (own j) (fun h3 => .inr (Nat.le_trans h.size h3))⟩
    · obtain ⟨h1, h2⟩ := h.all a (List.mem_append_right _ ha)
      exact ⟨a.mv (fun j hj => k.block j (far a ha j hj).1 (far a ha j hj).2) h1, h2⟩
  · refine List.pairwise_append.2 ⟨k.dis, hd2, fun a ha b hb j h1 h2 => ?_⟩
    obtain ⟨f1, f2⟩ := far b hb j h2
    exact ((k.all a ha).2 j h1).elim f2 (fun h3 => by omega)
theorem Mod.new (h : Mod w W S L) (k : Sep W W1 A) : Mod w W1 S (A ++ L) := Mod.step (A0 := []) h k (fun _ h => h.elim)
theorem Mod.call (h : Mod w W S L) (k : Below W.heap.size W W1) : Mod w W1 S L := h.new (.of k)
theorem Mod.drew (h : Mod w W S L) : Mod w W.drew S L := h.call (below_drew (Below.refl _ _))
theorem Mod.turn (h : Mod w W S L) {i : Nat} {a a' : As} (hi : L[i]? = some a) (k : Mod W W1 a.S [a']) (hs : ∀ j, a'.S j → a.S j ∨ W.heap.size ≤ j) : Mod w W1 S (L.set i a') := by
  obtain ⟨hi1, hi2⟩ := List.getElem?_eq_some_iff.1 hi
  have hall := List.pairwise_iff_getElem.1 h.dis
  have hI := fun j (hj : j < L.length) => h.all L[j] (List.getElem_mem hj)
  have far : ∀ j (hj : j < L.length), j ≠ i → ∀ q, L[j].S q → q < W.heap.size ∧ ¬ a.S q := fun j hj hne q hq => by
    refine ⟨L[j].lt (hI j hj).1 q hq, fun h1 => ?_⟩
    rw [← hi2] at h1
    rcases Nat.lt_or_gt_of_ne hne with h2 | h2
    · exact hall j i hj hi1 h2 q hq h1
    · exact hall i j hi1 hj h2 q h1 hq
  have own : ∀ j, a.S j → S j ∨ w.heap.size ≤ j := by rw [← hi2]; exact (hI i hi1).2
  refine ⟨k.os.trans h.os, k.tape.trans h.tape, k.output.trans h.output, Nat.le_trans h.size k.size, fun j hj hs => ?_, fun b hb => ?_, ?_⟩
  · have h2 : ¬ a.S j := fun h1 => (own j h1).elim hs (fun h3 => by omega)
    exact (k.block j (Nat.lt_of_lt_of_le hj h.size) h2).trans (h.block j hj hs)
  · obtain ⟨j, hj, rfl⟩ := List.getElem_of_mem hb
    rw [List.length_set] at hj
    by_cases hji : i = j
    · subst hji
      rw [List.getElem_set_self]
      obtain ⟨h1, h2⟩ := k.all a' (List.mem_singleton.2 rfl)
      exact ⟨h1, fun q hq => (h2 q hq).elim (own q) (fun h3 => .inr (Nat.le_trans h.size h3))⟩
    · rw [List.getElem_set_ne hji]
      exact ⟨L[j].mv (fun q hq => k.block q (far j hj (Ne.symm hji) q hq).1 (far j hj (Ne.symm hji) q hq).2) (hI j hj).1, (hI j hj).2⟩
  · refine List.pairwise_iff_getElem.2 fun x y hx hy hxy q h1 h2 => ?_
    rw [List.length_set] at hx hy
    rw [List.getElem_set] at h1 h2
    split at h1
    · rename_i e1
      split at h2
      · omega
      · rename_i e2
        obtain ⟨f1, f2⟩ := far y hy (Ne.symm e2) q h2
        exact (hs q h1).elim f2 (fun h3 => by omega)
    · rename_i e1
      split at h2
      · obtain ⟨f1, f2⟩ := far x hx (Ne.symm e1) q h1
        exact (hs q h2).elim f2 (fun h3 => by omega)
      · exact hall x y hx hy hxy q h1 h2
theorem Mod.at (h : Mod w W S L) {i : Nat} {a : As} (hi : L[i]? = some a) : a.I W := (h.all a (List.mem_of_getElem? hi)).1
theorem Mod.rowAt {α : Type} {d : Kd α} {hE : d.E = []} {e : Nat} {v : Value} {xs : List α} (h : Mod w W S L) (i : Nat) (hi : L[i]? = some (rw' d hE e v xs)) : d.R e W 0 (fun _ => True) v xs := h.at hi
theorem Mod.reads {α : Type} {d : Kd α} {hE : d.E = []} {e n c : Nat} {A : Option Addr} {xs : List α} (h : Mod w W S L) (i : Nat) (hi : L[i]? = some (rw' d hE e (.slice A n c) xs)) : d.C W A xs.length xs := (Kd.R_reads' (h.rowAt i hi)).2.2
theorem Mod.cap {α : Type} {d : Kd α} {hE : d.E = []} {e n c : Nat} {A : Option Addr} {xs : List α} (h : Mod w W S L) (i : Nat) (hi : L[i]? = some (rw' d hE e (.slice A n c) xs)) : n ≤ c := (Kd.R_reads' (h.rowAt i hi)).2.1
theorem Mod.nil {α : Type} {d : Kd α} {hE : d.E = []} {e : Nat} (h : Mod w W S L) : Mod w W S (rw' d hE e (.slice none ([] : List α).length 0) [] :: L) :=
  h.new (A := [rw' d hE e (.slice none ([] : List α).length 0) []]) ⟨rfl, rfl, rfl, Nat.le_refl _, fun _ _ _ => rfl, fun b hb => by obtain rfl := List.mem_singleton.1 hb; exact ⟨Kd.R_nil _ _ _ _ _, fun k hk => by have hk' : (Value.slice none 0 0).ownBlock = some k := hk; simp [Value.ownBlock] at hk'⟩, List.pairwise_singleton _ _⟩
theorem Mod.c (h : Mod w W S L) (i j : Nat) {g t : Nat} {cs : Array Value} {v : Value} (hi : L[i]? = some (bx g t cs)) (hj : cs[j]? = some v) : W.cell? ⟨g, j, none⟩ = some v := (blk_cell (h.at hi) j).trans hj
theorem Mod.f (h : Mod w W S L) (i j : Nat) {g t : Nat} {cs : Array Value} (hi : L[i]? = some (bx g t cs)) : W.frozen? ⟨g, j, none⟩ = false := blk_frozen (h.at hi) j
theorem Mod.old (h : Mod w W No L) {a : Addr} {v : Value} (hc : w.cell? a = some v) : W.cell? a = some v := (h.below.cell (World.block_lt_of_cell? w a hc)).trans hc
theorem Mod.oldC {α : Type} {d : Kd α} {A : Option Addr} {n : Nat} {xs : List α} (h : Mod w W No L) (hc : d.C w A n xs) : d.C W A n xs := Kd.C_below hc h.below
/-! ### events, as steps -/
section
variable {P : Program} {ops : Array Oper} {o : Oper} {a : Act} {Q : Exit → Act → World → Prop} {Kc : Act → World → Prop} {rest : List Oper}
def Stp (P : Program) (ops : Array Oper) (Q : Exit → Act → World → Prop) (o : Oper) (a : Act) (W : World) (Kc : Act → World → Prop) : Prop := if Region.wanted o (yielded ops a.tmps) = true then Oper.wp P o a W Kc Q else Kc (a.put o.dst undef) W
theorem wpList_stp (h : ∀ K : Act → World → Prop, (∀ a w, wpList P ops Q rest a w → K a w) → Stp P ops Q o a W K) : wpList P ops Q (o :: rest) a W := wpList_step h
theorem stp_box (hw : Region.wanted o (yielded ops a.tmps) = true) {cs : Array Value} {t : TypeId} (HS : Aside0 (Mod w W S L))
    (hrun : (execOp a.eval o).run P W = .ok (.value (.pointer (some ⟨W.heap.size, 0, none⟩))) (W.alloc (.cells cs t (0, 0))))
    (h : ∀ g w1, w.heap.size ≤ g → Aside0 (Mod w w1 S (bx g t cs :: L)) → Kc (a.put o.dst (.pointer (some ⟨g, 0, none⟩))) w1) : Stp P ops Q o a W Kc := by
  unfold Stp
  rw [if_pos hw]
  unfold Oper.wp
  rw [hrun]
  exact h _ _ HS.out.size ⟨HS.out.new (A := [bx W.heap.size t cs]) (Sep.one (below_alloc (Below.refl _ _) _) (blk_new W _) (fun k hk => by rw [show k = W.heap.size from hk]; exact Nat.le_refl _))⟩
def over (cs : Array Value) (j : Nat) (vs : List Value) : Array Value := (cs.toList.take j ++ vs ++ cs.toList.drop (j + vs.length)).toArray
theorem setRow_I {g t : Nat} {cs cs' : Array Value} (h : W.heap[g]? = some (.cells cs t (0, 0))) : (W.setRow g cs').heap[g]? = some (.cells cs' t (0, 0)) := setRow_heap W g cs cs' t (0, 0) h
theorem setRow_far (W : World) (g : Nat) (cs : Array Value) (k : Nat) (hk : k ≠ g) : (W.setRow g cs).heap[k]? = W.heap[k]? := by
  unfold World.setRow
  simp only [Array.getElem?_modify]
  rw [if_neg (fun e => hk e.symm)]
theorem setRow_mod {g t : Nat} {cs cs' : Array Value} (h : W.heap[g]? = some (.cells cs t (0, 0))) : Mod W (W.setRow g cs') (fun k => k = g) [bx g t cs'] :=
  ⟨rfl, rfl, rfl, by simp [World.setRow], fun k _ hk => setRow_far W g cs' k hk, fun b hb => by obtain rfl := List.mem_singleton.1 hb; exact ⟨setRow_I h, fun k hk => .inl hk⟩, List.pairwise_singleton _ _⟩
theorem run_store_at {ty : TypeId} {u : Value} {g j t : Nat} {cur : Array Value} (hg : W.heap[g]? = some (.cells cur t (0, 0))) (hi : (P.info? ty).map (·.size) = some u.cells.size) (hl : j + u.cells.size ≤ cur.size) (h1 : u.cells.toList.all (·.oneCell') = true) :
    (storeVar ty ⟨g, j, none⟩ u).run P W = .ok () (W.setRow g (over cur j u.cells.toList)) := by
  have := run_storeCells_at P g j t u.cells.toList 0 cur W hg (by simpa using hl) (fun v hv => List.all_eq_true.1 h1 v hv)
  cases hq : P.info? ty with
  | none => simp [hq] at hi
  | some i =>
    have hs : u.cells.size = i.size := by simp [hq] at hi; omega
    simp only [Nat.add_zero] at this
    simp [storeVar, sizeOf, typeInfo, hq, hs, this, over]
theorem run_op_store {ty : TypeId} {x y : Operand} {u : Value} {ad : Addr} (ho : o.op = .store ty x y) (hx : a.eval x = .pointer (some ad)) (hy : a.eval y = u) {w1 : World} (hr : (storeVar ty ad u).run P W = .ok () w1) : (execOp a.eval o).run P W = .ok .skip w1 := by
  unfold execOp
  simp only [ho, hx, hy, Instr.storeAt, Instr.sureAddr, Sem.run_bind, Sem.run_pure, Result.andThen_ok, hr]
theorem stp_skip (hw : Region.wanted o (yielded ops a.tmps) = true) (hN : o.dst = none) (hrun : (execOp a.eval o).run P W = .ok .skip W1) (h : Kc a W1) : Stp P ops Q o a W Kc := by
  unfold Stp
  rw [if_pos hw]
  unfold Oper.wp
  rw [hrun]
  show Kc (a.put o.dst undef) W1
  rw [hN]
  exact h
theorem stp_set (hw : Region.wanted o (yielded ops a.tmps) = true) (hN : o.dst = none) {ty : TypeId} {x y : Operand} (ho : o.op = .store ty x y) (HS : Aside0 (Mod w W S L)) (i j : Nat) {g t : Nat} {cs cs' : Array Value} {u : Value}
    (hi : L[i]? = some (bx g t cs)) (hx : a.eval x = .pointer (some ⟨g, j, none⟩)) (hy : a.eval y = u) (hsz : (P.info? ty).map (·.size) = some u.cells.size) (hl : (decide (j + u.cells.size ≤ cs.size) && u.cells.toList.all (·.oneCell')) = true) (hc : over cs j u.cells.toList = cs')
    (h : ∀ w1, Aside0 (Mod w w1 S (L.set i (bx g t cs'))) → Kc a w1) : Stp P ops Q o a W Kc := by
  rw [Bool.and_eq_true, decide_eq_true_eq] at hl
  subst hc
  have hg := HS.out.at hi
  exact stp_skip hw hN (run_op_store ho hx hy (run_store_at hg hsz hl.1 hl.2)) (h _ ⟨HS.out.turn hi (setRow_mod hg) (fun k hk => .inl hk)⟩)
theorem stp_value {N : Option Tmp} {v : Value} (hw : Region.wanted o (yielded ops a.tmps) = true) (hN : o.dst = N) (hrun : (execOp a.eval o).run P W = .ok (.value v) W1) (h : Kc (a.put N v) W1) : Stp P ops Q o a W Kc := by
  subst hN
  exact value_ hw rfl hrun h
theorem stp_make {α : Type} (d : Kd α) (hE : d.E = []) (e : Nat) (hw : Region.wanted o (yielded ops a.tmps) = true) (HS : Aside0 (Mod w W S L)) {N : Tmp} (hd : o.dst = some N) (t : TypeId) (x y : Operand) (ho : o.op = .makeSlice t x y) (m : Nat) (hx : a.eval x = .int .i64 (m : Int)) (hy : a.eval y = .int .i64 (m : Int))
    (ht : P.underlying t = some (.slice e)) (z : Value) (bytes : Nat) (hinfo : (P.info? e).map (fun i => (i.zero, i.size, i.bytes)) = some (some z, d.sz, bytes)) (hz : (decide (z.cells.size = d.sz) && (decide (0 < d.sz) && decide (0 < bytes))) = true) (z0 : α) (hzero : ∀ W base ok, d.M W base ok z0 z.cells.toList) (hl : m * bytes ≤ 281474976710656)
    (h : ∀ A c w1, Aside0 (Mod w w1 S (rw' d hE e (.slice A m c) (List.replicate m z0) :: L)) → Kc (a.put o.dst (.slice A m c)) w1) : Stp P ops Q o a W Kc := by
  simp only [Bool.and_eq_true, decide_eq_true_eq] at hz
  refine Kd.R_make_step d (w0 := W) 0 e hw hd t x y ho (m : Int) hx hy ht z bytes hinfo hz.1 hz.2.1 hz.2.2 z0 (ok := fun _ => True) (okp := fun _ => True) (hzero _ _ _) (fun _ _ => trivial) trivial (by omega) (by simpa using hl) (Below.refl _ _) (Nat.zero_le _) ?_
  intro v1 w1 hR hb hg hat
  simp only [Int.toNat_natCast] at hR
  obtain ⟨A, c, rfl⟩ := Kd.R_slice hR
  rw [List.length_replicate] at hR hat ⊢
  obtain ⟨b, hb1, hb2⟩ := hat
  exact h A c w1 ⟨HS.out.new (A := [rw' d hE e _ _]) (Sep.one ⟨hg.os, hg.tape, hg.output, hg.size, fun k hk => hg.block k hk (by simp)⟩ hR (fun k hk => by
    have hk' : (Value.slice A m c).ownBlock = some k := hk
    rw [hb1] at hk'
    injection hk' with hk'
    omega))⟩
section
variable {α : Type}
theorem stp_lit (d : Kd α) (hE : d.E = []) (e : Nat) (hw : Region.wanted o (yielded ops a.tmps) = true) (HS : Aside0 (Mod w W S L)) {xs : List α} {inner : List Value}
    (hrun : (execOp a.eval o).run P W = .ok (.value (.slice (some ⟨W.heap.size, 0, none⟩) xs.length xs.length)) (W.alloc (.cells inner.toArray e))) (hrep : ∀ W base ok, Reps (d.M W base ok) d.sz xs inner) (hm : xs.length ≤ 9223372036854775807)
    (h : ∀ A c w1, Aside0 (Mod w w1 S (rw' d hE e (.slice A xs.length c) xs :: L)) → Kc (a.put o.dst (.slice A xs.length c)) w1) : Stp P ops Q o a W Kc := by
  have hR : d.R e (W.alloc (.cells inner.toArray e)) 0 (fun _ => True) (.slice (some ⟨W.heap.size, 0, none⟩) xs.length xs.length) xs := by
    refine ⟨fun _ _ => trivial, inner, ?_, hrep _ _ _⟩
    have h2 := World.ownsRow_lit (base := 0) (e := e) (size := d.sz) W inner.toArray xs.length (Nat.zero_le _) (by simpa [maxLen] using hm) (by simpa using (hrep W 0 (fun _ => True)).1)
    simpa using h2
  unfold Stp
  rw [if_pos hw]
  unfold Oper.wp
  rw [hrun]
  exact h _ _ _ ⟨HS.out.new (A := [rw' d hE e _ xs]) (Sep.one (below_alloc (Below.refl _ _) _) hR (fun k hk => by
    have hk' : (Value.slice (some ⟨W.heap.size, 0, none⟩) xs.length xs.length).ownBlock = some k := hk
    simp only [Value.ownBlock, Option.some.injEq] at hk'
    omega))⟩
end
end
end Go.Proofs.YtbijcpnimkcfcaaDoor.H
namespace Go.Proofs.YtbijcpnimkcfcaaDoor.H
open Go.RowKit Go.Proofs.YtbijcpnimkcfcaaDoorW.PrintWords Go.Proofs.YtbijcpnimkcfcaaDoorW.PrintLast Go.Proofs.YtbijcpnimkcfcaaDoorW.PrintMore Go.Proofs.YtbijcpnimkcfcaaDoor.M
set_option linter.unusedVariables false
set_option linter.unusedSimpArgs false
inductive Plan where
  | done
  | p (i : Nat) (r : Plan)
  | t (i : Nat) (r : Plan)
  | e (i : Nat) (r : Plan)
  | d (i : Nat) (r : Plan)
  | two (i j : Nat) (r s : Plan)
  | three (i j k : Nat) (r s u : Plan)
def Plan.depth : Plan → Nat
  | .done => 0
  | .p _ r => r.depth + 1
  | .t _ r => r.depth + 1
  | .e _ r => r.depth + 1
  | .d _ r => r.depth + 1
  | .two _ _ r s => max r.depth s.depth + 1
  | .three _ _ _ r s u => max r.depth (max s.depth u.depth) + 1
section
variable (P : Program) (md : Region.Mode) (ops : Array Oper) (Q : Exit → Act → World → Prop) (S : World → Prop) (ds : List Nat)
def Plan.fits : Plan → Array Bool → Bool
  | .done, l => Region.ready md ops l == []
  | .p i r, l => anyB md ops l (l.setIfInBounds i true) i && r.fits (l.setIfInBounds i true)
  | .t i r, l => takeB md ops ds l (l.setIfInBounds i true) i && r.fits (l.setIfInBounds i true)
  | .e i r, l => readyB md ops l (l.setIfInBounds i true) i && (!ds.contains i && r.fits (l.setIfInBounds i true))
  | .d i r, l => readyB md ops l (l.setIfInBounds i true) i && (ds.contains i && r.fits (l.setIfInBounds i true))
  | .two i j r s, l => (Region.ready md ops l == [i, j] && l.setIfInBounds i true == l.setIfInBounds i true && l.setIfInBounds j true == l.setIfInBounds j true) && ((!ds.contains i && !ds.contains j) && (r.fits (l.setIfInBounds i true) && s.fits (l.setIfInBounds j true)))
  | .three i j k r s u, l => (Region.ready md ops l == [i, j, k] && l.setIfInBounds i true == l.setIfInBounds i true && l.setIfInBounds j true == l.setIfInBounds j true && l.setIfInBounds k true == l.setIfInBounds k true) && ((!ds.contains i && (!ds.contains j && !ds.contains k)) && (r.fits (l.setIfInBounds i true) && (s.fits (l.setIfInBounds j true) && u.fits (l.setIfInBounds k true))))
def OpAt (i : Nat) (K : Oper → Prop) : Prop := ∀ o, ops[i]? = some o → K o
def RunE (i : Nat) (a : Act) (w : World) (r : Act → World → Prop) : Prop := OpAt ops i fun o => ∀ K : Act → World → Prop, Shut (∀ a' w', S w' → (S w' → r a' w') → K a' w') → Stp P ops Q o a w K
def RunD (i : Nat) (a : Act) (w : World) (r : Act → World → Prop) : Prop := OpAt ops i fun o => ∀ K : Act → World → Prop, Shut (∀ a' w', r a' w' → K a' w') → Stp P ops Q o a w K
def Plan.run : Plan → Act → World → Prop
  | .done, a, w => Q .normal a w
  | .p i r, a, w => OpAt ops i fun o => ∃ v, Yields P ops o v a ∧ Plan.run r (a.put o.dst v) w
  | .t i r, a, w => OpAt ops i fun o => ∃ v, YieldsIf P ops S o v a ∧ S w ∧ Plan.run r (a.put o.dst v) w
  | .e i r, a, w => RunE P ops Q S i a w (Plan.run r)
  | .d i r, a, w => RunD P ops Q i a w (Plan.run r)
  | .two i j r s, a, w => RunE P ops Q S i a w (Plan.run r) ∧ RunE P ops Q S j a w (Plan.run s)
  | .three i j k r s u, a, w => RunE P ops Q S i a w (Plan.run r) ∧ RunE P ops Q S j a w (Plan.run s) ∧ RunE P ops Q S k a w (Plan.run u)
end
section
variable {P : Program} {md : Region.Mode} {ops : Array Oper} {Q : Exit → Act → World → Prop} {S : World → Prop} {ds : List Nat}
theorem ready_ops {i : Nat} {l : Array Bool} (h : i ∈ Region.ready md ops l) : ∃ o, ops[i]? = some o := by
  obtain ⟨_, o, ho, _⟩ := mem_ready.1 h
  exact ⟨o, ho⟩
theorem ready_any {i : Nat} {l l' : Array Bool} (h : anyB md ops l l' i = true) : ∃ o, ops[i]? = some o := by
  simp only [anyB, Bool.and_eq_true] at h
  exact ready_ops (by simpa using h.1.2)
theorem ready_take {i : Nat} {l l' : Array Bool} (h : takeB md ops ds l l' i = true) : ∃ o, ops[i]? = some o := by
  simp only [takeB, Bool.and_eq_true] at h
  exact ready_ops (by simpa using h.1.1.1.2)
theorem ready_one {i : Nat} {l l' : Array Bool} (h : readyB md ops l l' i = true) : ∃ o, ops[i]? = some o := by
  simp only [readyB, Bool.and_eq_true, beq_iff_eq] at h
  exact ready_ops (by rw [h.1]; exact List.mem_singleton.2 rfl)
theorem Plan.sound (hQ : ∀ c (a : Act) (d : Option Tmp) (v : Value) (w : World), Q (.panic c) (a.put d v) w → Q (.panic c) a w) (p : Plan) :
    ∀ (l : Array Bool) (fuel : Nat) (a : Act) (w : World), p.fits md ops ds l = true → p.depth ≤ fuel → p.run P ops Q S a w → wpAnyLast P md ops Q S ds fuel l a w := by
  have toE : ∀ {r : Plan} {i : Nat} {o : Oper} {l' : Array Bool} {f : Nat} {a : Act} {w : World} (ih : ∀ (l : Array Bool) (fuel : Nat) (a : Act) (w : World), r.fits md ops ds l = true → r.depth ≤ fuel → r.run P ops Q S a w → wpAnyLast P md ops Q S ds fuel l a w)
      (hf : r.fits md ops ds l' = true) (hd : r.depth ≤ f) (ho : ops[i]? = some o) (hr : RunE P ops Q S i a w (r.run P ops Q S)) (K : Act → World → Prop) (hK : Shut (∀ a' w', S w' → (S w' → wpAnyLast P md ops Q S ds f l' a' w') → K a' w')),
      if Region.wanted o (yielded ops a.tmps) = true then Oper.wp P o a w K Q else K (a.put o.dst undef) w := fun ih hf hd ho hr K hK => hr _ ho K (fun a' w' hS h => hK.out a' w' hS (fun hs => ih _ _ _ _ hf hd (h hs)))
  induction p with
  | done => exact fun l fuel a w hf _ hr => done_ hf hr
  | p i r ih =>
    intro l fuel a w hf hd hr
    simp only [Plan.fits, Bool.and_eq_true] at hf
    obtain ⟨f, rfl⟩ : ∃ f, fuel = f + 1 := ⟨fuel - 1, by simp only [Plan.depth] at hd; omega⟩
    obtain ⟨o, ho⟩ := ready_any hf.1
    obtain ⟨v, hy, hrun⟩ := hr o ho
    exact pure_ _ ho rfl hf.1 (fun c a w => hQ c a o.dst v w) hy rfl (ih _ _ _ _ hf.2 (by simp only [Plan.depth] at hd; omega) hrun)
  | t i r ih =>
    intro l fuel a w hf hd hr
    simp only [Plan.fits, Bool.and_eq_true] at hf
    obtain ⟨f, rfl⟩ : ∃ f, fuel = f + 1 := ⟨fuel - 1, by simp only [Plan.depth] at hd; omega⟩
    obtain ⟨o, ho⟩ := ready_take hf.1
    obtain ⟨v, hy, hS, hrun⟩ := hr o ho
    exact take_ _ ho rfl hf.1 (fun c a w => hQ c a o.dst v w) hy hS rfl (ih _ _ _ _ hf.2 (by simp only [Plan.depth] at hd; omega) hrun)
  | e i r ih =>
    intro l fuel a w hf hd hr
    simp only [Plan.fits, Bool.and_eq_true, Bool.not_eq_true', List.contains_eq_mem, decide_eq_false_iff_not] at hf
    obtain ⟨f, rfl⟩ : ∃ f, fuel = f + 1 := ⟨fuel - 1, by simp only [Plan.depth] at hd; omega⟩
    obtain ⟨o, ho⟩ := ready_one hf.1
    exact one_ _ ho rfl hf.1 hf.2.1 (toE ih hf.2.2 (by simp only [Plan.depth] at hd; omega) ho hr)
  | d i r ih =>
    intro l fuel a w hf hd hr
    simp only [Plan.fits, Bool.and_eq_true, List.contains_eq_mem, decide_eq_true_eq] at hf
    obtain ⟨f, rfl⟩ : ∃ f, fuel = f + 1 := ⟨fuel - 1, by simp only [Plan.depth] at hd; omega⟩
    obtain ⟨o, ho⟩ := ready_one hf.1
    exact last_ _ ho rfl hf.1 hf.2.1 (fun K hK => hr _ ho K (fun a' w' h => hK.out a' w' (ih _ _ _ _ hf.2.2 (by simp only [Plan.depth] at hd; omega) h)))
  | two i j r s ihr ihs =>
    intro l fuel a w hf hd hr
    simp only [Plan.fits] at hf
    rw [Bool.and_eq_true] at hf
    obtain ⟨h0, hf⟩ := hf
    simp only [Bool.and_eq_true, Bool.not_eq_true', List.contains_eq_mem, decide_eq_false_iff_not] at hf
    simp only [Plan.depth] at hd
    obtain ⟨f, rfl⟩ : ∃ f, fuel = f + 1 := ⟨fuel - 1, by omega⟩
    have hrd : Region.ready md ops l = [i, j] := by
      simp only [Bool.and_eq_true, beq_iff_eq] at h0
      exact h0.1.1
    obtain ⟨o, ho⟩ := ready_ops (i := i) (l := l) (md := md) (ops := ops) (by rw [hrd]; simp)
    obtain ⟨o', ho'⟩ := ready_ops (i := j) (l := l) (md := md) (ops := ops) (by rw [hrd]; simp)
    exact two_ _ _ ho ho' rfl rfl h0 hf.1.1 hf.1.2 (toE ihr hf.2.1 (by omega) ho hr.1) (toE ihs hf.2.2 (by omega) ho' hr.2)
  | three i j k r s u ihr ihs ihu =>
    intro l fuel a w hf hd hr
    simp only [Plan.fits] at hf
    rw [Bool.and_eq_true] at hf
    obtain ⟨h0, hf⟩ := hf
    simp only [Bool.and_eq_true, Bool.not_eq_true', List.contains_eq_mem, decide_eq_false_iff_not] at hf
    simp only [Plan.depth] at hd
    obtain ⟨f, rfl⟩ : ∃ f, fuel = f + 1 := ⟨fuel - 1, by omega⟩
    have hrd : Region.ready md ops l = [i, j, k] := by
      simp only [Bool.and_eq_true, beq_iff_eq] at h0
      exact h0.1.1.1
    obtain ⟨o, ho⟩ := ready_ops (i := i) (l := l) (md := md) (ops := ops) (by rw [hrd]; simp)
    obtain ⟨o', ho'⟩ := ready_ops (i := j) (l := l) (md := md) (ops := ops) (by rw [hrd]; simp)
    obtain ⟨o'', ho''⟩ := ready_ops (i := k) (l := l) (md := md) (ops := ops) (by rw [hrd]; simp)
    exact three_ _ _ _ ho ho' ho'' rfl rfl rfl h0 hf.1.1 hf.1.2.1 hf.1.2.2 (toE ihr hf.2.1 (by omega) ho hr.1) (toE ihs hf.2.2.1 (by omega) ho' hr.2.1) (toE ihu hf.2.2.2 (by omega) ho'' hr.2.2)
theorem plan_start {id : Nat} {a : Act} {w : World} (p : Plan) (S : World → Prop) (ds : List Nat) (hm : P.follows .mixedOrders = true) (hf : (Nat.ble p.depth ops.size && p.fits .any ops ds (Array.replicate ops.size false)) = true)
    (hQ : ∀ c (a : Act) (d : Option Tmp) (v : Value) (w : World), Q (.panic c) (a.put d v) w → Q (.panic c) a w) (hS : S w.drew) (h : S w.drew → p.run P ops Q S a w.drew) : (Code.region id ops true).wp P Q a w := by
  rw [Bool.and_eq_true] at hf
  exact wp_region_last_drew hm hS (fun hs => Plan.sound hQ p _ _ _ _ hf.2 (Nat.le_of_ble_eq_true hf.1) (h hs))
theorem gate_p {i : Nat} {r : Plan} {a : Act} {w : World} (h : (Plan.p i r).run P ops Q S a w) : (Plan.p i r).run P ops Q S a w := h
theorem gate_t {i : Nat} {r : Plan} {a : Act} {w : World} (h : (Plan.t i r).run P ops Q S a w) : (Plan.t i r).run P ops Q S a w := h
theorem run_p {i : Nat} {r : Plan} {N : Option Tmp} {o : Oper} {v : Value} {a : Act} {w : World} (ho : ops.toList[i]? = some o) (hN : o.dst = N) (hy : Yields P ops o v a) {a' : Act} (ha : a.put N v = a') (h : r.run P ops Q S a' w) : (Plan.p i r).run P ops Q S a w := by
  intro o' ho'
  rw [Array.getElem?_toList] at ho
  obtain rfl := Option.some.inj (ho.symm.trans ho')
  subst hN ha
  exact ⟨v, hy, h⟩
theorem run_t {i : Nat} {r : Plan} {N : Option Tmp} {o : Oper} {v : Value} {a : Act} {w : World} (ho : ops.toList[i]? = some o) (hN : o.dst = N) (hS : S w) (hy : YieldsIf P ops S o v a) {a' : Act} (ha : a.put N v = a') (h : r.run P ops Q S a' w) : (Plan.t i r).run P ops Q S a w := by
  intro o' ho'
  rw [Array.getElem?_toList] at ho
  obtain rfl := Option.some.inj (ho.symm.trans ho')
  subst hN ha
  exact ⟨v, hy, hS, h⟩
theorem run_e {i : Nat} {r : Plan} {o : Oper} {a : Act} {w : World} (ho : ops.toList[i]? = some o) (h : ∀ K : Act → World → Prop, Shut (∀ a' w', S w' → (S w' → r.run P ops Q S a' w') → K a' w') → Stp P ops Q o a w K) : (Plan.e i r).run P ops Q S a w := by
  intro o' ho'
  rw [Array.getElem?_toList] at ho
  obtain rfl := Option.some.inj (ho.symm.trans ho')
  exact h
theorem run_d {i : Nat} {r : Plan} {o : Oper} {a : Act} {w : World} (ho : ops.toList[i]? = some o) (h : ∀ K : Act → World → Prop, Shut (∀ a' w', r.run P ops Q S a' w' → K a' w') → Stp P ops Q o a w K) : (Plan.d i r).run P ops Q S a w := by
  intro o' ho'
  rw [Array.getElem?_toList] at ho
  obtain rfl := Option.some.inj (ho.symm.trans ho')
  exact h
theorem run_two {i j : Nat} {r s : Plan} {a : Act} {w : World} (h1 : (Plan.e i r).run P ops Q S a w) (h2 : (Plan.e j s).run P ops Q S a w) : (Plan.two i j r s).run P ops Q S a w := ⟨h1, h2⟩
theorem run_done {a : Act} {w : World} (h : Q .normal a w) : Plan.done.run P ops Q S a w := h
theorem goE {r : Act → World → Prop} {K : Act → World → Prop} (hK : Shut (∀ a' w', S w' → (S w' → r a' w') → K a' w')) {a : Act} {w : World} (hS : S w) {a' : Act} (ha : a = a') (h : S w → r a' w) : K a w := by
  subst ha
  exact hK.out _ _ hS h
theorem goD {r : Act → World → Prop} {K : Act → World → Prop} (hK : Shut (∀ a' w', r a' w' → K a' w')) {a : Act} {w : World} {a' : Act} (ha : a = a') (h : r a' w) : K a w := by
  subst ha
  exact hK.out _ _ h
def Told (Q : Exit → Act → World → Prop) (T : Act → World → Prop) : Exit → Act → World → Prop
  | .normal, a, w => T a w
  | e, a, w => Q e a w
theorem region_told {id : Nat} {b : Bool} {a : Act} {w : World} (T : Act → World → Prop) (h1 : (Code.region id ops b).wp P (Told Q T) a w) (h2 : ∀ a' w', T a' w' → Q .normal a' w') : (Code.region id ops b).wp P Q a w :=
  Code.wp_mono (fun e a w h => by cases e <;> first | exact h2 _ _ h | exact h) h1
end
end Go.Proofs.YtbijcpnimkcfcaaDoor.H
namespace Go.Proofs.YtbijcpnimkcfcaaDoor.H
open Go.RowKit Go.Proofs.YtbijcpnimkcfcaaDoorW.PrintWords Go.Proofs.YtbijcpnimkcfcaaDoorW.PrintLast Go.Proofs.YtbijcpnimkcfcaaDoorW.PrintMore Go.Proofs.YtbijcpnimkcfcaaDoor.M
set_option linter.unusedVariables false
set_option linter.unusedSimpArgs false
section
variable {P : Program} {md : Region.Mode} {ops : Array Oper} {Q : Exit → Act → World → Prop} {S : World → Prop} {ds : List Nat}
theorem rp {i : Nat} {r : Plan} {N : Option Tmp} {o : Oper} {v : Value} {a a' : Act} {w : World} (ho : ops.toList[i]? = some o) (hN : o.dst = N) (h : r.run P ops Q S a' w) (hw : Region.wanted o (yielded ops a.tmps) = true := by rfl)
    (hy : ∀ w', (execOp a.eval o).run P w' = .ok (.value v) w' := by intro w'; first | (go_simp; with_reducible rfl) | (go_simp; done))
    (ha : a.put N v = a' := by first | (simp only [Act.put, List.setIfInBounds_toArray, List.set_cons_zero, List.set_cons_succ, i64_w, i32_w]; rfl) | simp only [Act.put, List.setIfInBounds_toArray, List.set_cons_zero, List.set_cons_succ, i64_w, i32_w]) : (Plan.p i r).run P ops Q S a w := run_p ho hN (Or.inl ⟨hw, hy⟩) ha h
theorem rp0 {i : Nat} {r : Plan} {N : Option Tmp} {o : Oper} {a a' : Act} {w : World} (ho : ops.toList[i]? = some o) (hN : o.dst = N) (h : r.run P ops Q S a' w) (hw : Region.wanted o (yielded ops a.tmps) = false := by rfl)
    (ha : a.put N undef = a' := by first | (simp only [Act.put, List.setIfInBounds_toArray, List.set_cons_zero, List.set_cons_succ, i64_w, i32_w]; rfl) | simp only [Act.put, List.setIfInBounds_toArray, List.set_cons_zero, List.set_cons_succ, i64_w, i32_w]) : (Plan.p i r).run P ops Q S a w := run_p ho hN (Or.inr ⟨hw, rfl⟩) ha h
theorem rt {i : Nat} {r : Plan} {N : Option Tmp} {o : Oper} {v : Value} {a a' : Act} {w : World} (ho : ops.toList[i]? = some o) (hN : o.dst = N) (hS : S w) (h : r.run P ops Q S a' w) (hw : Region.wanted o (yielded ops a.tmps) = true := by rfl)
    (hy : ∀ w', S w' → (execOp a.eval o).run P w' = .ok (.value v) w' := by intro w' hS_; first | (go_simp; with_reducible rfl) | (go_simp; done))
    (ha : a.put N v = a' := by first | (simp only [Act.put, List.setIfInBounds_toArray, List.set_cons_zero, List.set_cons_succ, i64_w, i32_w]; rfl) | simp only [Act.put, List.setIfInBounds_toArray, List.set_cons_zero, List.set_cons_succ, i64_w, i32_w]) : (Plan.t i r).run P ops Q S a w := run_t ho hN hS (Or.inl ⟨hw, hy⟩) ha h
theorem ge {r : Act → World → Prop} {K : Act → World → Prop} (hK : Shut (∀ a' w', S w' → (S w' → r a' w') → K a' w')) {a a' : Act} {w : World} (hS : S w) (h : S w → r a' w)
    (ha : a = a' := by first | (simp only [Act.put, List.setIfInBounds_toArray, List.set_cons_zero, List.set_cons_succ, i64_w, i32_w]; rfl) | simp only [Act.put, List.setIfInBounds_toArray, List.set_cons_zero, List.set_cons_succ, i64_w, i32_w]) : K a w := goE hK hS ha h
theorem gd {r : Act → World → Prop} {K : Act → World → Prop} (hK : Shut (∀ a' w', r a' w' → K a' w')) {a a' : Act} {w : World} (h : r a' w)
    (ha : a = a' := by first | (simp only [Act.put, List.setIfInBounds_toArray, List.set_cons_zero, List.set_cons_succ, i64_w, i32_w]; rfl) | simp only [Act.put, List.setIfInBounds_toArray, List.set_cons_zero, List.set_cons_succ, i64_w, i32_w]) : K a w := goD hK ha h
theorem ps {id : Nat} {a : Act} {w : World} (p : Plan) (S : World → Prop) (ds : List Nat) (hS : S w.drew) (h : S w.drew → p.run P ops Q S a w.drew) (hm : P.follows .mixedOrders = true := by kernel_rfl) (hf : (Nat.ble p.depth ops.size && p.fits .any ops ds (Array.replicate ops.size false)) = true := by kernel_rfl)
    (hQ : ∀ c (a : Act) (d : Option Tmp) (v : Value) (w : World), Q (.panic c) (a.put d v) w → Q (.panic c) a w := by intro c_ a_ d_ v_ w_ h_; cases d_ <;> exact h_) : (Code.region id ops true).wp P Q a w := plan_start p S ds hm hf hQ hS h
theorem gc {oi : Oper} {N : Option Tmp} {a : Act} {w : World} {K : Act → World → Prop} {f : FuncId} {fn : Func} {xs : Array Operand} {ts : Array TypeId} {args : Array Value} {R : Ending → World → Prop} (hf : P.funcs[f]? = some fn) (con : Calls P f args w R)
    (hN : oi.dst = N) (hop : oi.op = .call { callee := .value (.func f), args := xs, argTypes := ts }) (h : ∀ e w', R e w' → ∃ v, e = .returned v ∧ K (a.put N v) w')
    (hargs : xs.map a.eval = args := by simp only [List.map_toArray, List.map_cons, List.map_nil]; rfl) (hname : (fn.name == "runtime.NumGoroutine") = false := by kernel_rfl) (hb : fn.body.isSome = true := by rfl)
    (hw : Region.wanted oi (yielded ops a.tmps) = true := by rfl) : Stp P ops Q oi a w K := by
  subst hN
  exact goes_ hf hname hb args hw rfl hop hargs (con.mono h)
end
section
variable {P : Program} {ops : Array Oper} {o : Oper} {a : Act} {Q : Exit → Act → World → Prop} {Kc : Act → World → Prop} {rest : List Oper} {w W W1 : World} {S : Nat → Prop} {L : List As}
theorem sB (HS : Aside0 (Mod w W S L)) (hb : Below W.heap.size W W1) : Aside0 (Mod w W1 S L) := ⟨HS.out.call hb⟩
theorem sD (HS : Aside0 (Mod w W S L)) : Aside0 (Mod w W.drew S L) := ⟨HS.out.drew⟩
theorem sN1 {x : As} (HS : Aside0 (Mod w W S L)) (hs : Sep W W1 [x]) : Aside0 (Mod w W1 S (x :: L)) := ⟨HS.out.new hs⟩
theorem sX (HS : Aside0 (Mod w W S L)) (is : List Nat) (hn : is.Nodup := by decide) : Aside0 (Mod w W S (is.filterMap (L[·]?))) := ⟨HS.out.sel is hn⟩
theorem bxL (t : TypeId) (cs : Array Value) (HS : Aside0 (Mod w W S L)) (h : ∀ g w1, w.heap.size ≤ g → Aside0 (Mod w w1 S (bx g t cs :: L)) → wpList P ops Q rest (a.put o.dst (.pointer (some ⟨g, 0, none⟩))) w1)
    (hrun : (execOp a.eval o).run P W = .ok (.value (.pointer (some ⟨W.heap.size, 0, none⟩))) (W.alloc (.cells cs t (0, 0))) := by first | (go_simp; done) | (go_simp; rfl)) (hw : Region.wanted o (yielded ops a.tmps) = true := by rfl) : wpList P ops Q (o :: rest) a W :=
  wpList_stp fun K hK => stp_box hw HS hrun fun g w1 hg hs => hK _ _ (h g w1 hg hs)
theorem stL {ty : TypeId} {x y : Operand} {g t : Nat} {cs : Array Value} {u : Value} {L' : List As} (HS : Aside0 (Mod w W S L)) (i j : Nat) (cs' : Array Value) (hN : o.dst = none) (ho : o.op = .store ty x y) (hi : L[i]? = some (bx g t cs)) (hx : a.eval x = .pointer (some ⟨g, j, none⟩)) (hy : a.eval y = u)
    (h : ∀ w1, Aside0 (Mod w w1 S L') → wpList P ops Q rest a w1) (hL : L.set i (bx g t cs') = L' := by simp only [List.set_cons_zero, List.set_cons_succ]; rfl) (hsz : (P.info? ty).map (·.size) = some u.cells.size := by kernel_rfl) (hl : (decide (j + u.cells.size ≤ cs.size) && u.cells.toList.all (·.oneCell')) = true := by rfl)
    (hc : over cs j u.cells.toList = cs' := by rfl) (hw : Region.wanted o (yielded ops a.tmps) = true := by rfl) : wpList P ops Q (o :: rest) a W := by
  subst hL
  exact wpList_stp fun K hK => stp_set hw hN ho HS i j hi hx hy hsz hl hc fun w1 hs => hK _ _ (h w1 hs)
end
end Go.Proofs.YtbijcpnimkcfcaaDoor.H
namespace Go.Proofs.YtbijcpnimkcfcaaDoor.H
open Go.RowKit Go.Proofs.YtbijcpnimkcfcaaDoorW.PrintWords Go.Proofs.YtbijcpnimkcfcaaDoorW.PrintLast Go.Proofs.YtbijcpnimkcfcaaDoorW.PrintMore Go.Proofs.YtbijcpnimkcfcaaDoor.M
set_option linter.unusedVariables false
set_option linter.unusedSimpArgs false
def zT : Tm := (⟨#[]⟩, 0, 0)
theorem tm_at {w : World} {A : Option Addr} {n : Nat} {l : Ts} (h : KT.C w A n l) (i : Nat) (hi : i < n) :
    ∃ ad, A = some ad ∧ w.cell? (ad.add (i * 3)) = some (.string (l.getD i zT).1) ∧ w.cell? ⟨(ad.add (i * 3)).block, (ad.add (i * 3)).off + 1, none⟩ = some (.int .i64 (l.getD i zT).2.1) ∧ w.cell? ⟨(ad.add (i * 3)).block, (ad.add (i * 3)).off + 2, none⟩ = some (.int .i64 (l.getD i zT).2.2) := by
  obtain ⟨ad, c, hA, hl, ⟨c0, c12, rfl, h0, c1, c2, rfl, h1, h2⟩, hc⟩ := Kd.C_get h zT (i : Int) (by omega) (by omega)
  simp only [Int.toNat_natCast] at hc h0 h1 h2
  have h0' : c0 = [.string (l.getD i zT).1] := h0
  have h1' : c1 = [.int .i64 (l.getD i zT).2.1] := h1
  have h2' : c2 = [.int .i64 (l.getD i zT).2.2] := h2
  subst h0' h1' h2'
  exact ⟨ad, hA, hc 0 _ rfl, by rw [← add_field ad (i * 3) 1 (by omega)]; exact hc 1 _ rfl, by rw [← add_field ad (i * 3) 2 (by omega)]; exact hc 2 _ rfl⟩
theorem getD_lt {α : Type} (l : List α) (z : α) (k : Nat) (h : k < l.length) : l.getD k z = l[k] := by rw [List.getD_eq_getElem?_getD, List.getElem?_eq_getElem h]; rfl
theorem infoTerm : (Tryd.prog.info? 78).map (fun i => (i.zero, i.size, i.bytes)) = some (some (.agg #[(.string ⟨#[]⟩), (.int .i64 0), (.int .i64 0)]), 3, 32) := by kernel_rfl
theorem infoString : (Tryd.prog.info? 9).map (fun i => (i.zero, i.size, i.bytes)) = some (some (.string ⟨#[]⟩), 1, 16) := by kernel_rfl
theorem KT_M (t : Tm) (W : World) (base : Nat) (ok : Nat → Prop) : KT.M W base ok t [.string t.1, .int .i64 t.2.1, .int .i64 t.2.2] := ⟨[.string t.1], [.int .i64 t.2.1, .int .i64 t.2.2], rfl, rfl, [.int .i64 t.2.1], [.int .i64 t.2.2], rfl, rfl, rfl⟩
theorem c2 {W : World} {b o : Nat} {v : Value} (h : W.cell? ⟨b, o + 2, none⟩ = some v) : W.cell? ⟨b, o + 1 + 1, none⟩ = some v := h
theorem round_next {p : Nat → Prop} {k : Nat} (h : ∀ j, j < k → p j) (hk : p k) : ∀ j, j < k + 1 → p j := fun j hj => (Nat.lt_succ_iff_lt_or_eq.1 hj).elim (h j) (fun e => e ▸ hk)
end Go.Proofs.YtbijcpnimkcfcaaDoor.H


namespace Go.Proofs.YtbijcpnimkcfcaaDoor.H
open Go.RowKit Go.Proofs.YtbijcpnimkcfcaaDoorW.PrintWords Go.Proofs.YtbijcpnimkcfcaaDoorW.PrintLast Go.Proofs.YtbijcpnimkcfcaaDoorW.PrintMore Go.Proofs.YtbijcpnimkcfcaaDoor.M
set_option linter.unusedVariables false
set_option linter.unusedSimpArgs false
variable {w W W1 : World} {S : Nat → Prop} {L : List As}
def tc (t : Tm) : List Value := [.string t.1, .int .i64 t.2.1, .int .i64 t.2.2]
def flat (l : Ts) : List Value := l.flatMap tc
theorem flat_length (l : Ts) : (flat l).length = l.length * 3 := by
  unfold flat
  induction l with
  | nil => rfl
  | cons t r ih => rw [List.flatMap_cons, List.length_append, ih, List.length_cons, Nat.add_mul]; simp [tc]; omega
theorem flat_append (l m : Ts) : flat (l ++ m) = flat l ++ flat m := by unfold flat; rw [List.flatMap_append]
theorem flat_split (l : Ts) (k : Nat) (hk : k < l.length) : flat l = flat (l.take k) ++ (tc (l.getD k zT) ++ flat (l.drop (k + 1))) := by
  rw [getD_lt l zT k hk]
  conv => lhs; rw [← List.take_append_drop k l]
  rw [flat_append, List.drop_eq_getElem_cons hk]
  rfl
theorem flat_set (l : Ts) (k : Nat) (t : Tm) (hk : k < l.length) : flat (l.set k t) = (flat l).take (k * 3) ++ (tc t ++ (flat l).drop (k * 3 + 3)) := by
  have hl : (flat (l.take k)).length = k * 3 := by rw [flat_length, List.length_take, Nat.min_eq_left (by omega)]
  rw [flat_split l k hk, List.take_append_of_le_length (by omega), List.take_of_length_le (by omega)]
  rw [List.drop_append, List.drop_of_length_le (by omega), hl, List.nil_append, show k * 3 + 3 - k * 3 = 3 by omega]
  rw [List.drop_append_of_le_length (by simp [tc])]
  rw [show (tc (l.getD k zT)).drop 3 = [] by simp [tc], List.nil_append]
  rw [List.set_eq_take_append_cons_drop, if_pos hk, flat_append]
  rfl
theorem reps_flat {W : World} {base : Nat} {ok : Nat → Prop} : ∀ {l : Ts} {cs : List Value}, Reps (KT.M W base ok) 3 l cs → cs = flat l
  | [], cs, h => List.eq_nil_of_length_eq_zero (by have := h.1; simpa using this)
  | t :: r, cs, h => by
    have h0 := h.2 0 t rfl
    have hlen := h.1
    simp only [List.length_cons] at hlen
    rw [Nat.zero_mul, List.drop_zero] at h0
    obtain ⟨c0, c12, e, k0, c1, c2, e2, k1, k2⟩ := h0
    have k0' : c0 = [.string t.1] := k0
    have k1' : c1 = [.int .i64 t.2.1] := k1
    have k2' : c2 = [.int .i64 t.2.2] := k2
    have e3 : cs.take 3 = tc t := by rw [e, e2, k0', k1', k2']; rfl
    have hr : Reps (KT.M W base ok) 3 r (cs.drop 3) := by
      refine ⟨by rw [List.length_drop]; omega, fun j p hj => ?_⟩
      have := h.2 (j + 1) p (by simpa using hj)
      rw [List.drop_drop]
      rwa [show 3 + j * 3 = (j + 1) * 3 by omega]
    have := reps_flat hr
    rw [← List.take_append_drop 3 cs, e3, this]; rfl
theorem flat_reps {W : World} {base : Nat} {ok : Nat → Prop} (l : Ts) : Reps (KT.M W base ok) 3 l (flat l) := by
  refine ⟨by rw [flat_length], fun j p hj => ?_⟩
  obtain ⟨hj1, rfl⟩ := List.getElem?_eq_some_iff.1 hj
  have : ((flat l).drop (j * 3)).take 3 = tc l[j] := by
    rw [flat_split l j hj1, List.drop_append, List.drop_of_length_le (by rw [flat_length, List.length_take]; omega), List.nil_append, flat_length, List.length_take, Nat.min_eq_left (by omega), Nat.sub_self, List.drop_zero, List.take_append_of_le_length (by simp [tc]), getD_lt l zT j hj1]
    rfl
  rw [this]
  exact KT_M _ _ _ _
abbrev tr (g e : Nat) (l : Ts) (sp : List Value) : As := bx g e (flat l ++ sp).toArray
theorem tr_R {g e cap : Nat} {l : Ts} {sp : List Value} (h : (tr g e l sp).I W) (hc : (flat l ++ sp).length = cap * 3) (hm : cap ≤ 9223372036854775807) : KT.R e W 0 (fun _ => True) (.slice (some ⟨g, 0, none⟩) l.length cap) l := by
  have hlen := flat_length l
  rw [List.length_append] at hc
  refine ⟨fun _ _ => trivial, flat l, ⟨hlen, .inr ⟨g, cap, _, rfl, Nat.zero_le _, h, by omega, by unfold maxLen; omega, ?_, ?_⟩⟩, flat_reps l⟩
  · show (flat l ++ sp).toArray.size = cap * 3
    rw [List.size_toArray, List.length_append]; omega
  · show (flat l ++ sp).take (l.length * 3) = flat l
    rw [← hlen, List.take_left']
    rfl
theorem R_tr {e n c : Nat} {A : Option Addr} {l : Ts} (h : KT.R e W 0 (fun _ => True) (.slice A n c) l) (hn : n = l.length) (hl : 0 < l.length) : ∃ g sp, A = some ⟨g, 0, none⟩ ∧ (tr g e l sp).I W ∧ (flat l ++ sp).length = c * 3 ∧ c ≤ 9223372036854775807 := by
  subst hn
  obtain ⟨_, inner, ⟨h1, h2⟩, hr⟩ := h
  have hi := reps_flat hr
  rcases h2 with ⟨h3, h4⟩ | ⟨g, cap, cur, h3, _, hg, hn, hm, hs, ht⟩
  · omega
  · injection h3 with h3 h4 h5
    subst h3 h5
    refine ⟨g, cur.toList.drop (l.length * 3), rfl, ?_, ?_, by unfold maxLen at hm; omega⟩
    · show W.heap[g]? = _
      rw [hg, ← hi, show inner = cur.toList.take (l.length * 3) from ht.symm, List.take_append_drop]
    · rw [← hi, show inner = cur.toList.take (l.length * 3) from ht.symm, List.take_append_drop]
      show cur.toList.length = c * 3
      rw [Array.length_toList]; exact hs
theorem Mod.asRow (h : Mod w W S L) {i g e cap : Nat} {l : Ts} {sp : List Value} (hi : L[i]? = some (tr g e l sp)) (hc : (flat l ++ sp).length = cap * 3) (hm : cap ≤ 9223372036854775807) : Mod w W S (L.set i (rw' KT rfl e (.slice (some ⟨g, 0, none⟩) l.length cap) l)) :=
  h.turn hi ⟨rfl, rfl, rfl, Nat.le_refl _, fun _ _ _ => rfl, fun b hb => by
    obtain rfl := List.mem_singleton.1 hb
    exact ⟨tr_R (h.at hi) hc hm, fun k hk => .inl (by have hk' : (Value.slice (some ⟨g, 0, none⟩) l.length cap).ownBlock = some k := hk; simp only [Value.ownBlock, Option.some.injEq] at hk'; exact hk'.symm)⟩, List.pairwise_singleton _ _⟩ (fun k hk => .inl (by have hk' : (Value.slice (some ⟨g, 0, none⟩) l.length cap).ownBlock = some k := hk; simp only [Value.ownBlock, Option.some.injEq] at hk'; exact hk'.symm))
theorem Mod.asBlock (h : Mod w W S L) {i g e n c : Nat} {l : Ts} {sp : List Value} (hi : L[i]? = some (rw' KT rfl e (.slice (some ⟨g, 0, none⟩) n c) l)) (hI : (tr g e l sp).I W) : Mod w W S (L.set i (tr g e l sp)) :=
  h.turn hi ⟨rfl, rfl, rfl, Nat.le_refl _, fun _ _ _ => rfl, fun b hb => by
    obtain rfl := List.mem_singleton.1 hb
    exact ⟨hI, fun k hk => .inl (by rw [show k = g from hk]; rfl)⟩, List.pairwise_singleton _ _⟩ (fun k hk => .inl (by rw [show k = g from hk]; rfl))
theorem over_term (l : Ts) (sp : List Value) (k : Nat) (t : Tm) (hk : k < l.length) : over (flat l ++ sp).toArray (k * 3) (tc t) = (flat (l.set k t) ++ sp).toArray := by
  have hl := flat_length l
  unfold over
  simp only [List.toList_toArray]
  congr 1
  rw [flat_set l k t hk, List.take_append_of_le_length (by omega), show (tc t).length = 3 from rfl, List.drop_append_of_le_length (by omega)]
  simp only [List.append_assoc]
section
variable {P : Program} {ops : Array Oper} {o : Oper} {a : Act} {Q : Exit → Act → World → Prop} {Kc : Act → World → Prop}
theorem stp_put_term (hw : Region.wanted o (yielded ops a.tmps) = true) (hN : o.dst = none) {ty : TypeId} {x y : Operand} (ho : o.op = .store ty x y) (HS : Aside0 (Mod w W S L)) (i : Nat) {g e : Nat} {l : Ts} {sp : List Value} (hi : L[i]? = some (tr g e l sp)) (k : Nat) (hk : k < l.length) (t : Tm)
    (hx : a.eval x = .pointer (some ⟨g, k * 3, none⟩)) (hy : a.eval y = .agg #[.string t.1, .int .i64 t.2.1, .int .i64 t.2.2]) (hsz : (P.info? ty).map (·.size) = some 3) (h : ∀ w1, Aside0 (Mod w w1 S (L.set i (tr g e (l.set k t) sp))) → Kc a w1) : Stp P ops Q o a W Kc := by
  have hl := flat_length l
  refine stp_set hw hN ho HS i (k * 3) (cs' := (flat (l.set k t) ++ sp).toArray) hi hx hy hsz ?_ (over_term l sp k t hk) h
  rw [Bool.and_eq_true, decide_eq_true_eq]
  refine ⟨?_, rfl⟩
  show k * 3 + 3 ≤ (flat l ++ sp).toArray.size
  rw [List.size_toArray, List.length_append]; omega
end
end Go.Proofs.YtbijcpnimkcfcaaDoor.H


/- What the reference's functions on fractions return: proved by walking their code. Conditions: the bounds that stand in each statement. -/
namespace Go.Proofs.YtbijcpnimkcfcaaDoor.H
open Go.RowKit Go.Proofs.YtbijcpnimkcfcaaDoorW.PrintWords Go.Proofs.YtbijcpnimkcfcaaDoorW.PrintLast Go.Proofs.YtbijcpnimkcfcaaDoorW.PrintMore Go.Proofs.YtbijcpnimkcfcaaDoor.M
attribute [local go_sem] max2_int min2_int max_two min_two max_three min_three max_four min_four
set_option linter.unusedVariables false
set_option linter.unusedSimpArgs false

theorem specIn (a b c : Int) (w : World) : Calls Tryd.prog 76 #[.int .i64 a, .int .i64 b, .int .i64 c] w fun e w' => e = .returned (.bool (inR a b c)) ∧ ∃ n, w' = w.drewN n := by
  by_cases h : b ≤ a
  · go_enter Tryd.func76, Tryd.ntmps76
    go_wp2
    go_ret
    exact ⟨ret_bool (by simp [inR, h]), 0, rfl⟩
  · go_enter Tryd.func76, Tryd.ntmps76
    go_wp2
    go_ret
    exact ⟨ret_bool (by simp [inR]; omega), 0, rfl⟩

theorem specGcd (a b : Int) (w : World) (ha : -9223372036854775807 ≤ a) (ha' : a ≤ 9223372036854775807) (hb : -9223372036854775807 ≤ b) (hb' : b ≤ 9223372036854775807) :
    Calls Tryd.prog 79 #[.int .i64 a, .int .i64 b] w fun e w' => e = .returned (.int .i64 (Int.gcd a b)) ∧ w = w' := by
  go_enter Tryd.func79, Tryd.ntmps79
  go_wp2
  go_loop [0, 1] (fun x y => ∃ p q : Int, x = .int .i64 p ∧ y = .int .i64 q ∧ Hid (Int.gcd p q = Int.gcd a b) ∧ -9223372036854775807 ≤ p ∧ p ≤ 9223372036854775807 ∧ -9223372036854775807 ≤ q ∧ q ≤ 9223372036854775807) (fun _ y => (intOf y).natAbs)
  case atStart => exact ⟨a, b, rfl, rfl, rfl, ha, ha', hb, hb'⟩
  case round =>
    clear ha ha' hb hb'
    obtain ⟨p, q, rfl, rfl, hg, hp, hp', hq, hq'⟩ := hrel
    by_cases h : q = 0
    · have h1 : (q == 0) = true := by simpa using h
      have h2 : (q != 0) = false := by simpa using h
      have hfin : (if p < -p then -p else p) = (Int.gcd a b : Int) := by
        rw [← hg.out, h, Int.gcd_zero_right]; split <;> omega
      clear hg h
      go_wp2
      go_ret
      exact ⟨rfl, rfl⟩
    · have h1 : (q == 0) = false := by simpa using h
      have h2 : (q != 0) = true := by simpa using h
      have hm := tmod_lt (a := p) h
      have hm' := tmod_le p q
      have hg' : Hid (Int.gcd q (p.tmod q) = Int.gcd a b) := by rw [Hid, gcd_tmod]; exact hg
      go_wp2
      go_round
      case rel => exact ⟨q, p.tmod q, rfl, rfl, hg', hq, hq', by omega, by omega⟩
      case measure => exact hm

theorem specIsFrac (a b : Int) (w : World) : Calls Tryd.prog 40 #[.agg #[.int .i64 a, .int .i64 b]] w fun e w' => e = .returned (.bool (isFr a b)) ∧ Below w.heap.size w w' := by
  cases h1 : inR b 1 1000000000 with
  | false =>
    have hf := Lib.hid (show isFr a b = false by simp [isFr, h1])
    go_enter Tryd.func40, Tryd.ntmps40
    go_wp2_with (first | (go_at_call 76; refine (specIn _ _ _ _).mono ?_; rintro e w1 ⟨rfl, n, rfl⟩))
    go_ret
    exact ⟨ret_bool hf.out.symm, pw_below_drewN ((Below.refl _ _).alloc (Nat.le_refl _) _) _⟩
  | true =>
    cases h2 : inR a (-1000000000) 1000000000 with
    | false =>
      have hf := Lib.hid (show isFr a b = false by simp [isFr, h1, h2])
      go_enter Tryd.func40, Tryd.ntmps40
      go_wp2_with (first | (go_at_call 76; refine (specIn _ _ _ _).mono ?_; rintro e w1 ⟨rfl, n, rfl⟩))
      go_ret
      exact ⟨ret_bool hf.out.symm, pw_below_drewN ((Below.refl _ _).alloc (Nat.le_refl _) _) _⟩
    | true =>
      have hf := Lib.hid (show isFr a b = ((Int.gcd a b : Int) == 1) by simp [isFr, h1, h2]; rfl)
      obtain ⟨k11, k12⟩ := (inR_iff _ _ _).1 h1
      obtain ⟨k21, k22⟩ := (inR_iff _ _ _).1 h2
      go_enter Tryd.func40, Tryd.ntmps40
      go_wp2_with (first | (go_at_call 76; refine (specIn _ _ _ _).mono ?_; rintro e w1 ⟨rfl, n, rfl⟩) | (go_at_call 79; refine (specGcd _ _ _ (by omega) (by omega) (by omega) (by omega)).mono ?_; rintro e w1 ⟨rfl, rfl⟩))
      go_ret
      exact ⟨ret_bool hf.out.symm, pw_below_drewN ((Below.refl _ _).alloc (Nat.le_refl _) _) _⟩

theorem specZero (a b : Int) (w : World) : Calls Tryd.prog 72 #[.agg #[.int .i64 a, .int .i64 b]] w fun e w' => e = .returned (.bool (a == 0)) ∧ Below w.heap.size w w' := by
  go_enter Tryd.func72, Tryd.ntmps72
  go_wp2
  go_ret
  exact ⟨rfl, by repeat (first | exact Below.refl _ _ | (with_reducible assumption) | exact HB.out | apply below_alloc | apply pw_below_drewN | apply below_drew | refine below_set ?_ (by first | omega | (simp; done) | (simp; omega)) | assumption)⟩
end Go.Proofs.YtbijcpnimkcfcaaDoor.H

/- What the program's functions on fractions return: proved by walking their code. Conditions: the bounds that stand in each statement. -/
namespace Go.Proofs.YtbijcpnimkcfcaaDoor.H
open Go.RowKit Go.Proofs.YtbijcpnimkcfcaaDoorW.PrintWords Go.Proofs.YtbijcpnimkcfcaaDoorW.PrintLast Go.Proofs.YtbijcpnimkcfcaaDoorW.PrintMore Go.Proofs.YtbijcpnimkcfcaaDoor.M
attribute [local go_sem] max2_int min2_int max_two min_two max_three min_three max_four min_four
set_option linter.unusedVariables false
set_option linter.unusedSimpArgs false

theorem implIn (a b c : Int) (w : World) : Calls Tryd.prog 66 #[.int .i64 a, .int .i64 b, .int .i64 c] w fun e w' => e = .returned (.bool (inR a b c)) ∧ ∃ n, w' = w.drewN n := by
  by_cases h : b ≤ a
  · go_enter Tryd.func66, Tryd.ntmps66
    go_wp2
    go_ret
    exact ⟨ret_bool (by simp [inR, h]), 0, rfl⟩
  · go_enter Tryd.func66, Tryd.ntmps66
    go_wp2
    go_ret
    exact ⟨ret_bool (by simp [inR]; omega), 0, rfl⟩

theorem implUp (a b : Int) (w : World) (hb : -9223372036854775807 ≤ b) (hb' : b ≤ 9223372036854775807) : Calls Tryd.prog 67 #[.int .i64 a, .int .i64 b] w fun e w' => e = .returned (.bool (inR a (-b) b)) ∧ ∃ n, w' = w.drewN n := by
  go_enter Tryd.func67, Tryd.ntmps67
  go_wp2_with (first | (go_at_call 66; refine (implIn _ _ _ _).mono ?_; rintro e w1 ⟨rfl, n, rfl⟩))
  go_ret
  exact ⟨rfl, n, rfl⟩

theorem implSize (a : Int) (w : World) (ha : -9223372036854775807 ≤ a) (ha' : a ≤ 9223372036854775807) : Calls Tryd.prog 99 #[.int .i64 a] w fun e w' => e = .returned (.int .i64 (a.natAbs : Int)) ∧ w = w' := by
  go_enter Tryd.func99, Tryd.ntmps99
  go_wp2
  all_goals
    go_ret
    exact ⟨ret_int (by omega), rfl⟩

theorem implGcd (a b : Int) (w : World) (ha : -9223372036854775807 ≤ a) (ha' : a ≤ 9223372036854775807) (hb : -9223372036854775807 ≤ b) (hb' : b ≤ 9223372036854775807) :
    Calls Tryd.prog 68 #[.int .i64 a, .int .i64 b] w fun e w' => e = .returned (.int .i64 (Int.gcd a b)) ∧ ∃ n, w' = w.drewN n := by
  go_enter Tryd.func68, Tryd.ntmps68
  go_wp2_with (first | (go_at_call 99; refine (implSize _ _ (by assumption) (by assumption)).mono ?_; rintro e w1 ⟨rfl, rfl⟩))
  go_loopw [0, 1] (fun x y w' => ∃ p q n : Nat, x = .int .i64 (p : Int) ∧ y = .int .i64 (q : Int) ∧ Hid (Nat.gcd p q = Int.gcd a b) ∧ p ≤ 9223372036854775807 ∧ q ≤ 9223372036854775807 ∧ Hid (w' = w.drewN n)) (fun _ y _ => (intOf y).natAbs)
  case atStart => exact ⟨a.natAbs, b.natAbs, 0, rfl, rfl, rfl, by omega, by omega, rfl⟩
  case round =>
    clear ha ha' hb hb'
    obtain ⟨p, q, n, rfl, rfl, hg, hp, hq, hw⟩ := hrel
    by_cases h : q = 0
    · have h1 : ((q : Int) == 0) = true := by simpa using h
      have h2 : ((q : Int) != 0) = false := by simpa using h
      have hfin := Lib.hid (show (p : Int) = (Int.gcd a b : Int) by rw [← hg.out, h, Nat.gcd_zero_right])
      clear hg h
      go_wp2
      go_ret
      exact ⟨ret_int hfin.out, n, hw.out⟩
    · have h1 : ((q : Int) == 0) = false := by simpa using h
      have h2 : ((q : Int) != 0) = true := by simpa using h
      have h3 : ¬ ((q : Int) = 0) := by simpa using h
      have hm : p % q < q := Nat.mod_lt _ (by omega)
      have hg' : Hid (Nat.gcd q (p % q) = Int.gcd a b) := by rw [Hid, Nat.gcd_comm, ← Nat.gcd_rec, Nat.gcd_comm]; exact hg.out
      go_wp2
      go_region
      go_roundw
      case rel => (repeat apply Exists.intro); exact ⟨⟨q, p % q, n + 1, rfl, by go_num, hg', hq, by omega, by rw [Hid, hw.out]; rfl⟩, rfl⟩
      case measure => simp [intOf]; omega

theorem implIsFraction (a b : Int) (w : World) : Calls Tryd.prog 27 #[.agg #[.int .i64 a, .int .i64 b]] w fun e w' => e = .returned (.bool (isFr a b)) ∧ Below w.heap.size w w' := by
  cases h1 : inR b 1 1000000000 with
  | false =>
    have hf := Lib.hid (show isFr a b = false by simp [isFr, h1])
    go_enter Tryd.func27, Tryd.ntmps27
    go_wp2_with (first | (go_at_call 66; refine (implIn _ _ _ _).mono ?_; rintro e w1 ⟨rfl, n, rfl⟩))
    go_ret
    exact ⟨ret_bool hf.out.symm, by repeat (first | exact Below.refl _ _ | (with_reducible assumption) | exact HB.out | apply below_alloc | apply pw_below_drewN | apply below_drew | refine below_set ?_ (by first | omega | (simp; done) | (simp; omega)) | assumption)⟩
  | true =>
    cases h2 : inR a (-1000000000) 1000000000 with
    | false =>
      have hf := Lib.hid (show isFr a b = false by simp [isFr, h1, h2])
      go_enter Tryd.func27, Tryd.ntmps27
      go_wp2_with (first | (go_at_call 66; refine (implIn _ _ _ _).mono ?_; rintro e w1 ⟨rfl, n, rfl⟩) | (go_at_call 67; refine (implUp _ _ _ (by omega) (by omega)).mono ?_; rintro e w1 ⟨rfl, n, rfl⟩))
      go_ret
      exact ⟨ret_bool hf.out.symm, by repeat (first | exact Below.refl _ _ | (with_reducible assumption) | exact HB.out | apply below_alloc | apply pw_below_drewN | apply below_drew | refine below_set ?_ (by first | omega | (simp; done) | (simp; omega)) | assumption)⟩
    | true =>
      have hf := Lib.hid (show isFr a b = ((Int.gcd a b : Int) == 1) by simp [isFr, h1, h2]; rfl)
      obtain ⟨k11, k12⟩ := (inR_iff _ _ _).1 h1
      obtain ⟨k21, k22⟩ := (inR_iff _ _ _).1 h2
      go_enter Tryd.func27, Tryd.ntmps27
      go_wp2_with (first | (go_at_call 66; refine (implIn _ _ _ _).mono ?_; rintro e w1 ⟨rfl, n, rfl⟩) | (go_at_call 67; refine (implUp _ _ _ (by omega) (by omega)).mono ?_; rintro e w1 ⟨rfl, n, rfl⟩) | (go_at_call 68; refine (implGcd _ _ _ (by omega) (by omega) (by omega) (by omega)).mono ?_; rintro e w1 ⟨rfl, n, rfl⟩))
      go_ret
      exact ⟨ret_bool hf.out.symm, by repeat (first | exact Below.refl _ _ | (with_reducible assumption) | exact HB.out | apply below_alloc | apply pw_below_drewN | apply below_drew | refine below_set ?_ (by first | omega | (simp; done) | (simp; omega)) | assumption)⟩

end Go.Proofs.YtbijcpnimkcfcaaDoor.H


namespace Go.Proofs.YtbijcpnimkcfcaaDoor.M
theorem isWd_iff {d : Nat} {s : ByteArray} : isWd d s = true ↔ ∀ j, (h : j < s.size) → 48 ≤ s[j].toNat ∧ s[j].toNat < 48 + d := by
  unfold isWd isWL bl
  rw [List.all_eq_true]
  constructor
  · intro h j hj
    have := h s[j] (by rw [show s[j] = s.data.toList[j]'(by simpa using hj) from rfl]; exact List.getElem_mem _)
    simpa using this
  · intro h c hc
    obtain ⟨j, hj, rfl⟩ := List.getElem_of_mem hc
    have := h j (by simpa using hj)
    exact decide_eq_true this
theorem isWd_no {d : Nat} {s : ByteArray} {j : Nat} (hj : j < s.size) (h : ¬ (48 ≤ (s[j].toNat : Int) ∧ (s[j].toNat : Int) < 48 + d)) : isWd d s = false := by
  rw [← Bool.not_eq_true, isWd_iff]
  intro hh
  have := hh j hj
  omega
end Go.Proofs.YtbijcpnimkcfcaaDoor.M
namespace Go.Proofs.YtbijcpnimkcfcaaDoor.H
open Go.RowKit Go.Proofs.YtbijcpnimkcfcaaDoorW.PrintWords Go.Proofs.YtbijcpnimkcfcaaDoorW.PrintLast Go.Proofs.YtbijcpnimkcfcaaDoorW.PrintMore Go.Proofs.YtbijcpnimkcfcaaDoor.M
attribute [local go_sem] max2_int min2_int max_two min_two max_three min_three max_four min_four
set_option linter.unusedVariables false
set_option linter.unusedSimpArgs false
theorem u8_sub {x : Int} (h0 : 48 ≤ x) (h1 : x < 256) : IntKind.u8.wrap (x - 48) = x - 48 := IntWalk.u8_in _ ⟨by omega, by omega⟩
set_option maxRecDepth 100000 in
set_option maxHeartbeats 4000000 in
theorem specWord (d : Nat) (hd : d ≤ 9) (s : ByteArray) (hs : s.size ≤ 9223372036854775807) (w : World) :
    Calls Tryd.prog 83 #[.int .i64 (d : Int), .string s] w fun e w' => e = .returned (.bool (isWd d s)) ∧ Below w.heap.size w w' := by
  go_enter Tryd.func83, Tryd.ntmps83
  go_wp2
  go_loop [5] (fun i => ∃ k : Nat, k ≤ s.size ∧ i = .int .i64 (k : Int) ∧ Hid (∀ j, (h : j < s.size) → j < k → 48 ≤ s[j].toNat ∧ s[j].toNat < 48 + d)) (fun i => s.size - (intOf i).toNat)
  case atStart => exact ⟨0, by omega, rfl, fun j _ hj => by omega⟩
  case round =>
    obtain ⟨k, hk, rfl, HY⟩ := hrel
    by_cases hlt : k < s.size
    · obtain ⟨c, hc⟩ : ∃ c : Int, ∀ h : k < s.size, ((s[k]'h).toNat : Int) = c := ⟨((s[k]'hlt).toNat : Int), fun _ => rfl⟩
      have hc0 : 0 ≤ c := by rw [← hc hlt]; omega
      have hc1 : c < 256 := by have := (s[k]'hlt).toNat_lt; rw [← hc hlt]; omega
      have HC := Lib.hid (hc hlt)
      by_cases h1 : c < 48
      · go_wp2
        go_ret
        exact ⟨ret_bool (isWd_no hlt (by rw [HC.out]; omega)).symm, Below.refl _ _⟩
      · have hu := u8_sub (x := c) (by omega) hc1
        by_cases h2 : c - 48 ≥ d
        · go_wp2
          go_ret
          exact ⟨ret_bool (isWd_no hlt (by rw [HC.out]; omega)).symm, Below.refl _ _⟩
        · have h3 : ¬ (d : Int) ≤ c - 48 := by omega
          go_wp2
          go_round
          case rel => exact ⟨k + 1, by omega, by go_num, fun j h hj => (Nat.lt_succ_iff_lt_or_eq.1 hj).elim (HY j h) (fun e => by subst e; have := HC.out; omega)⟩
          case measure => simp [intOf]; omega
    · go_wp2
      go_ret
      exact ⟨ret_bool (isWd_iff.2 (fun j h => HY j h (by omega))).symm, Below.refl _ _⟩
set_option maxRecDepth 100000 in
set_option maxHeartbeats 4000000 in
theorem implWord (d n : Nat) (hd : d ≤ 9) (s : ByteArray) (hs : s.size ≤ 9223372036854775807) (w : World) :
    Calls Tryd.prog 101 #[.int .i64 (d : Int), .string s, .int .i64 (n : Int)] w fun e w' => e = .returned (.bool (isWd d s && decide (s.size ≤ n))) ∧ Below w.heap.size w w' := by
  go_enter Tryd.func101, Tryd.ntmps101
  go_wp2
  go_loop [10] (fun i => ∃ k : Nat, k ≤ s.size ∧ i = .int .i64 (k : Int) ∧ Hid (∀ j, (h : j < s.size) → j < k → 48 ≤ s[j].toNat ∧ s[j].toNat < 48 + d)) (fun i => s.size - (intOf i).toNat)
  case atStart => exact ⟨0, by omega, rfl, fun j _ hj => by omega⟩
  case round =>
    obtain ⟨k, hk, rfl, HY⟩ := hrel
    by_cases hlt : k < s.size
    · obtain ⟨c, hc⟩ : ∃ c : Int, ∀ h : k < s.size, ((s[k]'h).toNat : Int) = c := ⟨((s[k]'hlt).toNat : Int), fun _ => rfl⟩
      have hc0 : 0 ≤ c := by rw [← hc hlt]; omega
      have hc1 : c < 256 := by have := (s[k]'hlt).toNat_lt; rw [← hc hlt]; omega
      have HC := Lib.hid (hc hlt)
      by_cases h1 : c < 48
      · go_wp2
        go_ret
        exact ⟨ret_bool (by rw [isWd_no hlt (by rw [HC.out]; omega)]; rfl), Below.refl _ _⟩
      · by_cases h2 : c ≥ 48 + d
        · go_wp2
          go_ret
          exact ⟨ret_bool (by rw [isWd_no hlt (by rw [HC.out]; omega)]; rfl), Below.refl _ _⟩
        · have h3 : ¬ (48 + (d : Int)) ≤ c := by omega
          go_wp2
          go_round
          case rel => exact ⟨k + 1, by omega, by go_num, fun j h hj => (Nat.lt_succ_iff_lt_or_eq.1 hj).elim (HY j h) (fun e => by subst e; have := HC.out; omega)⟩
          case measure => simp [intOf]; omega
    · have HE := Lib.hid (isWd_iff.2 (fun j h => HY j h (by omega)))
      go_wp2
      go_ret
      exact ⟨ret_bool (by rw [HE.out, Bool.true_and]), Below.refl _ _⟩
theorem specSizes (d n : Int) (w : World) : Calls Tryd.prog 53 #[.int .i64 d, .int .i64 n] w fun e w' => e = .returned (.bool (lev d n)) ∧ Below w.heap.size w w' := by
  cases h1 : inR d 1 3 <;> cases h2 : inR n 1 5 <;> by_cases h3 : d < 3 <;> by_cases h4 : n ≤ 4
  all_goals
    have HL := Lib.hid (show lev d n = (inR d 1 3 && (inR n 1 5 && (decide (d < 3) || decide (n ≤ 4)))) from rfl)
    go_enter Tryd.func53, Tryd.ntmps53
    go_wp2_with (first | (go_at_call 76; refine (specIn _ _ _ _).mono ?_; rintro e w1 ⟨rfl, n_, rfl⟩))
    go_ret
    exact ⟨ret_bool (by rw [HL.out]; simp [*]), by repeat (first | exact Below.refl _ _ | apply pw_below_drewN)⟩
theorem implLetters (d : Int) (w : World) : Calls Tryd.prog 93 #[.int .i64 d] w fun e w' => e = .returned (.bool (inR d 1 3)) ∧ ∃ n, w' = w.drewN n := by
  go_enter Tryd.func93, Tryd.ntmps93
  go_wp2_with (first | (go_at_call 66; refine (implIn _ _ _ _).mono ?_; rintro e w1 ⟨rfl, n_, rfl⟩))
  go_ret
  exact ⟨rfl, _, rfl⟩
theorem lev5 (d n : Int) : lev d n = (inR d 1 3 && (inR n 1 5 && (decide (d < 3) || decide (n < 5)))) := by
  unfold lev
  rw [show decide (n ≤ 4) = decide (n < 5) from decide_eq_decide.2 (by omega)]
theorem implLevel (d n : Int) (w : World) : Calls Tryd.prog 55 #[.int .i64 d, .int .i64 n] w fun e w' => e = .returned (.bool (lev d n)) ∧ Below w.heap.size w w' := by
  cases h1 : inR d 1 3 <;> cases h2 : inR n 1 5 <;> by_cases h3 : d < 3 <;> by_cases h4 : n < 5
  all_goals
    have HL := Lib.hid (lev5 d n)
    go_enter Tryd.func55, Tryd.ntmps55
    go_wp2_with (first | (go_at_call 93; refine (implLetters _ _).mono ?_; rintro e w1 ⟨rfl, n_, rfl⟩) | (go_at_call 66; refine (implIn _ _ _ _).mono ?_; rintro e w1 ⟨rfl, n_, rfl⟩) | (go_at_call 76; refine (specIn _ _ _ _).mono ?_; rintro e w1 ⟨rfl, n_, rfl⟩))
    go_ret
    exact ⟨ret_bool (by rw [HL.out]; simp [*]), by repeat (first | exact Below.refl _ _ | apply pw_below_drewN)⟩
end Go.Proofs.YtbijcpnimkcfcaaDoor.H



