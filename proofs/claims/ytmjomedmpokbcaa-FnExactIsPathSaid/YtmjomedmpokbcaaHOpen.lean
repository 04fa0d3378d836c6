/- What an argument that can be read holds, kind by kind. Conditions: none. -/
import Derived.Test.YtmjomedmpokbcaaHBase
import Derived.Deep.Slices
import Derived.Deep.Strs
import Derived.Lib.SmallJoins
import Derived.OpenShut
namespace Go.Proofs.Ytmjomedmpokbcaa.H
open Go.RowKit Go.ChangeShapes Go.ChangeAt Go.Joins Go.Deep Go.ChangeMaps Go.Proofs.YtmjomedmpokbcaaW.PrintWords Go.Proofs.YtmjomedmpokbcaaW.PrintLast Go.Proofs.YtmjomedmpokbcaaW.PrintMore
set_option linter.unusedVariables false
set_option linter.unusedSimpArgs false

/-- A reading of a value of type t tells what its cells are of kind d. -/
def Opens (P : Program) {α : Type} (d : Kd α) (t : TypeId) : Prop := ∀ (H : Type) (enc : TypeId × Value → H) (w : World) (fuel : Nat) (cs : List Value) (x : DataW H × List MemPlace), DataW.trod enc P w 0 (fun _ => true) true fuel t cs = some x → ∃ a : α, d.K w a cs
section
variable {P : Program} {t e : TypeId} {α β : Type}
theorem opens_int {k : IntKind} (ht : P.underlying t = some (.int k)) : Opens P (Kd.int k) t := fun H enc w fuel cs x h => by
  obtain ⟨n, hn, _, _⟩ := DataW.trod_int ht h
  exact ⟨n, hn⟩
theorem opens_string (ht : P.underlying t = some .string) : Opens P Kd.string t := fun H enc w fuel cs x h => by
  obtain ⟨n, hn, _, _⟩ := DataW.trod_string ht h
  exact ⟨n, hn⟩
theorem opens_pair {da : Kd α} {db : Kd β} {f0 f1 : Field} (ht : P.underlying t = some (.struct #[f0, f1])) (ho0 : f0.offset = 0) (ho1 : f1.offset = da.sz) (h0 : P.cellsOf f0.type = da.sz) (h1 : P.cellsOf f1.type = db.sz) (hc : P.cellsOf t = da.sz + db.sz)
    (a0 : Opens P da f0.type) (a1 : Opens P db f1.type) : Opens P (Kd.pair da db) t := fun H enc w fuel cs x h => by
  obtain ⟨y0, y1, n, _, hl, e0, e1⟩ := trod_struct2 ht h
  rw [ho0, h0, List.drop_zero] at e0
  rw [ho1, h1] at e1
  obtain ⟨x0, k0⟩ := a0 _ _ _ _ _ _ e0
  obtain ⟨x1, k1⟩ := a1 _ _ _ _ _ _ e1
  refine ⟨(x0, x1), cs.take da.sz, (cs.drop da.sz).take db.sz, ?_, k0, k1⟩
  rw [List.take_of_length_le (l := cs.drop da.sz) (by rw [List.length_drop, hl, hc]; omega), List.take_append_drop]
theorem opens_slice [Inhabited α] {d : Kd α} (ht : P.underlying t = some (.slice e)) (hc : P.cellsOf e = d.sz) (ha : Opens P d e) : Opens P (Kd.slice e d) t := fun H enc w fuel cs x h => by
  rcases open_slice ht h with ⟨rfl, _⟩ | ⟨a, len, cap, m, n, D, Pl, rfl, hb, hl, hm, hmm, _, hx⟩
  · exact ⟨[], none, 0, rfl, Nat.le_refl _, Kd.C_nil d w⟩
  · simp only [if_true] at hmm
    obtain ⟨f, hf⟩ := choose_lt (n := m) (p := fun i y => ∃ c : List Value, c.length = d.sz ∧ d.K w y c ∧ ∀ i' u, c[i']? = some u → w.cell? (a.add (i * d.sz + i')) = some u) (fun i hi => by
      obtain ⟨c, h1, h2⟩ := hx i hi
      rw [hc] at h1
      obtain ⟨_, hlen, hcell⟩ := World.cells?_some h1
      obtain ⟨y, hy⟩ := ha _ _ _ _ _ _ h2
      refine ⟨y, c, hlen, hy, fun i' u hu => ?_⟩
      have hi' : i' < d.sz := by rw [← hlen]; exact (List.getElem?_eq_some_iff.1 hu).1
      have := hcell i' hi'
      rw [← hu, ← this]
      rw [Go.Deep.add_add])
    refine ⟨(List.range len).map f, some a, cap, by simp, by simpa using hl, by simp, ?_, fun _ => ⟨a, rfl, fun j p hj => ?_⟩⟩
    · simp only [List.length_map, List.length_range]
      unfold maxLen at hm; omega
    · obtain ⟨hj1, hj2⟩ := List.getElem?_eq_some_iff.1 hj
      simp only [List.length_map, List.length_range] at hj1
      obtain ⟨c, h1, h2, h3⟩ := hf j (by omega)
      refine ⟨c, h1, ?_, h3⟩
      rw [List.getElem_map, List.getElem_range] at hj2
      rw [← hj2]; exact h2
end
/-- An argument of type [][]int64. -/
theorem openRows {H : Type} {enc : TypeId × Value → H} {W : World} {r : Reach} {b0 : Nat} {v : Value} {dd : DataW H} {p : List MemPlace} (hval : Value.okWide Try.prog W r b0 45 v) (h : DataW.Trod enc Try.prog W 0 (fun _ => true) true 45 v dd p) :
    ∃ A c, ∃ l : List (List Int), v = .slice A l.length c ∧ l.length ≤ c ∧ l.length ≤ 9223372036854775807 ∧ (Kd.slice 2 (Kd.int .i64)).C W A l.length l := by
  obtain ⟨A, n, c, rfl⟩ := Go.WideShapes.okWide_slice Try.underlying45 hval
  obtain ⟨fuel, hf⟩ := h
  have ho : Opens Try.prog (Kd.slice 70 (Kd.slice 2 (Kd.int .i64))) 45 := opens_slice Try.underlying45 (by kernel_rfl) (opens_slice Try.underlying70 (by kernel_rfl) (opens_int Try.underlying2))
  obtain ⟨l, A', c', e1, hl, hr⟩ := ho _ _ _ _ _ _ hf
  have e2 : Value.slice A n c = .slice A' l.length c' := by simpa [Value.cells] using e1
  injection e2 with e3 e4 e5
  subst e3 e4 e5
  exact ⟨A, c, l, rfl, hl, Kd.C_max hr, hr⟩
end Go.Proofs.Ytmjomedmpokbcaa.H
