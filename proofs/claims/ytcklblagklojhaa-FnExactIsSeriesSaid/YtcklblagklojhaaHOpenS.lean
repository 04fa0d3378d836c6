/- What a series that can be read holds. Conditions: none. -/
import Derived.Test.YtcklblagklojhaaHTerms
import Derived.Deep.Slices
import Derived.Deep.Strs
import Derived.Lib.SmallJoins
import Derived.OpenShut
namespace Go.Proofs.Ytcklblagklojhaa.H
open Go.RowKit Go.ChangeShapes Go.ChangeAt Go.Joins Go.Deep Go.ChangeMaps Go.Proofs.YtcklblagklojhaaW.PrintWords Go.Proofs.YtcklblagklojhaaW.PrintLast Go.Proofs.YtcklblagklojhaaW.PrintMore Go.Proofs.Ytcklblagklojhaa.M
set_option linter.unusedVariables false
set_option linter.unusedSimpArgs false

/-- A reading of a value of type t tells what its cells are of kind d, and Q of it. -/
def OpensQ (P : Program) {α : Type} (d : Kd α) (t : TypeId) (Q : α → Prop) : Prop := ∀ (H : Type) (enc : TypeId × Value → H) (w : World) (fuel : Nat) (cs : List Value) (x : DataW H × List MemPlace), DataW.trod enc P w 0 (fun _ => true) true fuel t cs = some x → ∃ a : α, Q a ∧ d.K w a cs
section
variable {P : Program} {t e : TypeId} {α β : Type}
theorem opensQ_int {k : IntKind} (ht : P.underlying t = some (.int k)) : OpensQ P (Kd.int k) t (fun _ => True) := fun H enc w fuel cs x h => by
  obtain ⟨n, hn, _, _⟩ := DataW.trod_int ht h
  exact ⟨n, trivial, hn⟩
theorem opensQ_string (ht : P.underlying t = some .string) : OpensQ P Kd.string t (fun s => s.size ≤ maxLen) := fun H enc w fuel cs x h => by
  obtain ⟨n, hn, _, hs⟩ := DataW.trod_string ht h
  exact ⟨n, hs, hn⟩
theorem opensQ_pair {da : Kd α} {db : Kd β} {Qa : α → Prop} {Qb : β → Prop} {f0 f1 : Field} (ht : P.underlying t = some (.struct #[f0, f1])) (ho0 : f0.offset = 0) (ho1 : f1.offset = da.sz) (h0 : P.cellsOf f0.type = da.sz) (h1 : P.cellsOf f1.type = db.sz) (hc : P.cellsOf t = da.sz + db.sz)
    (a0 : OpensQ P da f0.type Qa) (a1 : OpensQ P db f1.type Qb) : OpensQ P (Kd.pair da db) t (fun p => Qa p.1 ∧ Qb p.2) := fun H enc w fuel cs x h => by
  obtain ⟨y0, y1, n, _, hl, e0, e1⟩ := trod_struct2 ht h
  rw [ho0, h0, List.drop_zero] at e0
  rw [ho1, h1] at e1
  obtain ⟨x0, q0, k0⟩ := a0 _ _ _ _ _ _ e0
  obtain ⟨x1, q1, k1⟩ := a1 _ _ _ _ _ _ e1
  refine ⟨(x0, x1), ⟨q0, q1⟩, cs.take da.sz, (cs.drop da.sz).take db.sz, ?_, k0, k1⟩
  rw [List.take_of_length_le (l := cs.drop da.sz) (by rw [List.length_drop, hl, hc]; omega), List.take_append_drop]
theorem opensQ_slice [Inhabited α] {d : Kd α} {Q : α → Prop} (ht : P.underlying t = some (.slice e)) (hc : P.cellsOf e = d.sz) (ha : OpensQ P d e Q) : OpensQ P (Kd.slice e d) t (fun l => ∀ a ∈ l, Q a) := fun H enc w fuel cs x h => by
  rcases open_slice ht h with ⟨rfl, _⟩ | ⟨a, len, cap, m, n, D, Pl, rfl, hb, hl, hm, hmm, _, hx⟩
  · exact ⟨[], by simp, none, 0, rfl, Nat.le_refl _, Kd.C_nil d w⟩
  · simp only [if_true] at hmm
    obtain ⟨f, hf⟩ := choose_lt (n := m) (p := fun i y => Q y ∧ ∃ c : List Value, c.length = d.sz ∧ d.K w y c ∧ ∀ i' u, c[i']? = some u → w.cell? (a.add (i * d.sz + i')) = some u) (fun i hi => by
      obtain ⟨c, h1, h2⟩ := hx i hi
      rw [hc] at h1
      obtain ⟨_, hlen, hcell⟩ := World.cells?_some h1
      obtain ⟨y, qy, hy⟩ := ha _ _ _ _ _ _ h2
      refine ⟨y, qy, c, hlen, hy, fun i' u hu => ?_⟩
      have hi' : i' < d.sz := by rw [← hlen]; exact (List.getElem?_eq_some_iff.1 hu).1
      have := hcell i' hi'
      rw [← hu, ← this]
      rw [Go.Deep.add_add])
    refine ⟨(List.range len).map f, ?_, some a, cap, by simp, by simpa using hl, by simp, ?_, fun _ => ⟨a, rfl, fun j p hj => ?_⟩⟩
    · intro y hy
      obtain ⟨i, hi, rfl⟩ := List.mem_map.1 hy
      exact (hf i (by have := List.mem_range.1 hi; omega)).1
    · simp only [List.length_map, List.length_range]
      unfold maxLen at hm; omega
    · obtain ⟨hj1, hj2⟩ := List.getElem?_eq_some_iff.1 hj
      simp only [List.length_map, List.length_range] at hj1
      obtain ⟨_, c, h1, h2, h3⟩ := hf j (by omega)
      refine ⟨c, h1, ?_, h3⟩
      rw [List.getElem_map, List.getElem_range] at hj2
      rw [← hj2]; exact h2
end
set_option maxRecDepth 100000 in
/-- An argument of type Series. -/
theorem openSeries {H : Type} {enc : TypeId × Value → H} {W : World} {r : Reach} {b0 : Nat} {v : Value} {dd : DataW H} {p : List MemPlace} (hval : Value.okWide Try.prog W r b0 40 v) (h : DataW.Trod enc Try.prog W 0 (fun _ => true) true 40 v dd p) :
    ∃ d n A c, ∃ l : Ts, v = .agg #[.int .i64 d, .int .i64 n, .slice A l.length c] ∧ l.length ≤ c ∧ (∀ t ∈ l, t.1.size ≤ 9223372036854775807) ∧ KT.C W A l.length l := by
  obtain ⟨v0, v1, v2, y0, y1, y2, n, rfl, _, _, h0, h1, h2⟩ := open_agg3 Try.underlying40 (by kernel_rfl) (by kernel_rfl) hval h
  obtain ⟨d, e0, _, _⟩ := DataW.trod_int Try.underlying2 h0
  obtain ⟨m, e1, _, _⟩ := DataW.trod_int Try.underlying2 h1
  obtain rfl : v0 = .int .i64 d := by simpa using e0
  obtain rfl : v1 = .int .i64 m := by simpa using e1
  have ho : OpensQ Try.prog (Kd.slice 136 KT) 38 (fun l => ∀ a ∈ l, a.1.size ≤ maxLen ∧ True ∧ True) :=
    opensQ_slice Try.underlying38 (by kernel_rfl) (opensQ_pair Try.underlying136 rfl rfl (by kernel_rfl) (by kernel_rfl) (by kernel_rfl) (opensQ_string Try.underlying9) (opensQ_pair Try.underlying23 rfl rfl (by kernel_rfl) (by kernel_rfl) (by kernel_rfl) (opensQ_int Try.underlying2) (opensQ_int Try.underlying2)))
  obtain ⟨l, hq, A, c, e2, hl, hr⟩ := ho _ _ _ _ _ _ h2
  obtain rfl : v2 = .slice A l.length c := by simpa using e2
  exact ⟨d, m, A, c, l, rfl, hl, fun t ht => (hq t ht).1, hr⟩
end Go.Proofs.Ytcklblagklojhaa.H
