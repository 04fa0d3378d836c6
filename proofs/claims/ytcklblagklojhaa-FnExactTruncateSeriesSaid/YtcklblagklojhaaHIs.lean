/- What the reference and the program tell of a series being one: the walk, in plain words. Conditions: the argument's row is read. -/
import Derived.Test.YtcklblagklojhaaPureIs
import Derived.Test.YtcklblagklojhaaKBase
import Derived.Test.YtcklblagklojhaaA0
namespace Go.Proofs.Ytcklblagklojhaa.H
open Go.RowKit Go.Proofs.YtcklblagklojhaaW.PrintWords Go.Proofs.Ytcklblagklojhaa.M
theorem un_map (l : Ts) : (l.map fun t => (⟨t.1, ⟨t.2.1, t.2.2⟩⟩ : Go.Proofs.Ytcklblagklojhaa.A.S77)).map Pure.SI.ts = l := by
  rw [List.map_map]
  exact List.map_id _
theorem un_C {w : World} {A : Option Addr} {n : Nat} {l : Ts} (h : KT.C w A n l) : Go.Proofs.Ytcklblagklojhaa.A.k77.C w A n (l.map fun t => (⟨t.1, ⟨t.2.1, t.2.2⟩⟩ : Go.Proofs.Ytcklblagklojhaa.A.S77)) := (C_map (d1 := Go.Proofs.Ytcklblagklojhaa.A.k77) (d2 := KT) _ rfl (fun _ _ => Iff.rfl)).2 h
theorem specIs (d n : Int) (A : Option Addr) (c : Nat) (l : Ts) (w : World) (hr : KT.C w A l.length l) (hc : l.length ≤ c) (hb : bnd l = true) :
    Calls Try.prog 109 #[.agg #[.int .i64 d, .int .i64 n, .slice A l.length c]] w fun e w' => e = .returned (.bool (isS d n l)) ∧ Below w.heap.size w w' := by
  have h1 := un_C hr
  have hu := un_map l
  have h2 := Pure.SI.spec_is d n _ (Pure.SI.bnd_of (by rw [hu]; exact hb)) 4000000 (Nat.le_refl _)
  rw [hu] at h2
  have h3 := Go.Proofs.Ytcklblagklojhaa.A.spec_l01Is.calls 4000000 d n A c _ _ w (by rw [List.length_map]; exact h1) (by rw [List.length_map]; exact hc) h2
  rw [List.length_map] at h3
  exact h3
theorem implIs (d n : Int) (A : Option Addr) (c : Nat) (l : Ts) (w : World) (hr : KT.C w A l.length l) (hc : l.length ≤ c) (hb : bnd l = true) :
    Calls Try.prog 42 #[.agg #[.int .i64 d, .int .i64 n, .slice A l.length c]] w fun e w' => e = .returned (.bool (isS d n l)) ∧ Below w.heap.size w w' := by
  have h1 := un_C hr
  have hu := un_map l
  have h2 := Pure.SI.impl_is d n _ (Pure.SI.bnd_of (by rw [hu]; exact hb)) 4000000 (Nat.le_refl _)
  rw [hu] at h2
  have h3 := Go.Proofs.Ytcklblagklojhaa.A.impl_IsSeries.calls 4000000 d n A c _ _ w (by rw [List.length_map]; exact h1) (by rw [List.length_map]; exact hc) h2
  rw [List.length_map] at h3
  exact h3
end Go.Proofs.Ytcklblagklojhaa.H
