/- Rows of terms in memory: the printed kinds and our own. Conditions: none. -/
import Derived.Test.YtcklblagklojhaaHBase
import Derived.Test.YtcklblagklojhaaHSerMath3
import Derived.Test.YtcklblagklojhaaWRepsOne
namespace Go.Proofs.Ytcklblagklojhaa.H
open Go.RowKit Go.Proofs.YtcklblagklojhaaW.PrintWords Go.Proofs.YtcklblagklojhaaW.PrintLast Go.Proofs.YtcklblagklojhaaW.PrintMore Go.Proofs.Ytcklblagklojhaa.M
set_option linter.unusedVariables false
/-- A term's three cells. -/
abbrev KT : Kd Tm := Kd.pair Kd.string (Kd.pair (Kd.int .i64) (Kd.int .i64))
section
variable {α β : Type} {d1 : Kd α} {d2 : Kd β}
theorem C_map {w : World} {A : Option Addr} {n : Nat} (g : β → α) (hs : d1.sz = d2.sz) (hk : ∀ x c, d1.K w (g x) c ↔ d2.K w x c) {l : List β} : d1.C w A n (l.map g) ↔ d2.C w A n l := by
  unfold Kd.C ReadsRow
  rw [List.length_map, hs]
  refine and_congr Iff.rfl (and_congr Iff.rfl (imp_congr Iff.rfl (exists_congr fun a => and_congr Iff.rfl ?_)))
  constructor
  · intro h j p hj
    obtain ⟨c, h1, h2, h3⟩ := h j (g p) (by rw [List.getElem?_map, hj]; rfl)
    exact ⟨c, h1, (hk _ _).1 h2, h3⟩
  · intro h j p hj
    rw [List.getElem?_map, Option.map_eq_some_iff] at hj
    obtain ⟨q, hq, rfl⟩ := hj
    obtain ⟨c, h1, h2, h3⟩ := h j q hq
    exact ⟨c, h1, (hk _ _).2 h2, h3⟩
theorem R_map {w : World} {e base : Nat} {ok : Nat → Prop} {v : Value} (g : β → α) (hs : d1.sz = d2.sz) (hk : ∀ ok x c, d1.M w base ok (g x) c ↔ d2.M w base ok x c) {l : List β} : d1.R e w base ok v (l.map g) ↔ d2.R e w base ok v l := by
  unfold Kd.R OwnRow
  refine and_congr Iff.rfl ?_
  rw [List.length_map, hs]
  refine exists_congr fun inner => and_congr Iff.rfl ?_
  unfold Reps
  rw [List.length_map]
  refine and_congr Iff.rfl ⟨fun h j p hj => ?_, fun h j p hj => ?_⟩
  · exact (hk _ _ _).1 (h j (g p) (by rw [List.getElem?_map, hj]; rfl))
  · rw [List.getElem?_map, Option.map_eq_some_iff] at hj
    obtain ⟨q, hq, rfl⟩ := hj
    exact (hk _ _ _).2 (h j q hq)
end
end Go.Proofs.Ytcklblagklojhaa.H
