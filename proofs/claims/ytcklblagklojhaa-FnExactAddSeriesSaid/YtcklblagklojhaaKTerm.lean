/- Small words for the walks: rows of terms, texts, results. Conditions: none. -/
import Derived.Test.YtcklblagklojhaaKSched
import Derived.WalkSpells
namespace Go.Proofs.Ytcklblagklojhaa.H
open Go.RowKit Go.Proofs.YtcklblagklojhaaW.PrintWords Go.Proofs.YtcklblagklojhaaW.PrintLast Go.Proofs.YtcklblagklojhaaW.PrintMore Go.Proofs.Ytcklblagklojhaa.M
set_option linter.unusedVariables false
set_option linter.unusedSimpArgs false
def zT : Tm := (⟨#[]⟩, 0, 0)
theorem tm_at {w : World} {A : Option Addr} {n : Nat} {l : Ts} (h : KT.C w A n l) (i : Nat) (hi : i < n) :
    ∃ ad, A = some ad ∧ w.cell? (ad.add (i * 3)) = some (.string (l.getD i zT).1) ∧ w.cell? ⟨(ad.add (i * 3)).block, (ad.add (i * 3)).off + 1, none⟩ = some (.int .i64 (l.getD i zT).2.1) ∧ w.cell? ⟨(ad.add (i * 3)).block, (ad.add (i * 3)).off + 2, none⟩ = some (.int .i64 (l.getD i zT).2.2) := by
  obtain ⟨ad, c, hA, hl, ⟨c0, c12, rfl, h0, c1, c2, rfl, h1, h2⟩, hc⟩ := Kd.C_get h zT (i : Int) (by omega) (by omega)
  simp only [Int.toNat_natCast] at hc h0 h1 h2
  have h0' : c0 = [.string (l.getD i zT).1] := h0
  have h1' : c1 = [.int .i64 (l.getD i zT).2.1] := h1
  have h2' : c2 = [.int .i64 (l.getD i zT).2.2] := h2
  subst h0' h1' h2'
  exact ⟨ad, hA, hc 0 _ rfl, by rw [← add_field ad (i * 3) 1 (by omega)]; exact hc 1 _ rfl, by rw [← add_field ad (i * 3) 2 (by omega)]; exact hc 2 _ rfl⟩
theorem getD_lt {α : Type} (l : List α) (z : α) (k : Nat) (h : k < l.length) : l.getD k z = l[k] := by rw [List.getD_eq_getElem?_getD, List.getElem?_eq_getElem h]; rfl
theorem co_take {l : Ts} {u : ByteArray} {k : Nat} (h : ∀ j, j < k → (l.getD j zT).1 ≠ u) (hk : k < l.length) (he : (l.getD k zT).1 = u) : co l u = (l.getD k zT).2 := by
  induction l generalizing k with
  | nil => cases hk
  | cons t r ih =>
    rw [co_cons]
    cases k with
    | zero => rw [List.getD_cons_zero] at he ⊢; rw [if_pos he]
    | succ k =>
      rw [if_neg (by have := h 0 (by omega); rwa [List.getD_cons_zero] at this), List.getD_cons_succ]
      rw [List.getD_cons_succ] at he
      exact ih (fun j hj => by have := h (j + 1) (by omega); rwa [List.getD_cons_succ] at this) (by simpa using hk) he
theorem co_all {l : Ts} {u : ByteArray} (h : ∀ j, j < l.length → (l.getD j zT).1 ≠ u) : co l u = (0, 1) := co_none fun t ht e => by
  obtain ⟨j, hj, rfl⟩ := List.getElem_of_mem ht
  exact h j hj (by rw [getD_lt l zT j hj]; exact e)
abbrev KF : Kd Fr := Kd.pair (Kd.int .i64) (Kd.int .i64)
theorem infoTerm : (Try.prog.info? 77).map (fun i => (i.zero, i.size, i.bytes)) = some (some (.agg #[(.string ⟨#[]⟩), (.int .i64 0), (.int .i64 0)]), 3, 32) := by kernel_rfl
theorem infoFrac : (Try.prog.info? 24).map (fun i => (i.zero, i.size, i.bytes)) = some (some (.agg #[(.int .i64 0), (.int .i64 0)]), 2, 16) := by kernel_rfl
theorem infoString : (Try.prog.info? 9).map (fun i => (i.zero, i.size, i.bytes)) = some (some (.string ⟨#[]⟩), 1, 16) := by kernel_rfl
theorem infoInt64 : (Try.prog.info? 2).map (fun i => (i.zero, i.size, i.bytes)) = some (some (.int .i64 0), 1, 8) := by kernel_rfl
theorem infoU8 : (Try.prog.info? 5).map (fun i => (i.zero, i.size, i.bytes)) = some (some (.int .u8 0), 1, 1) := by kernel_rfl
theorem KT_M (t : Tm) (W : World) (base : Nat) (ok : Nat → Prop) : KT.M W base ok t [.string t.1, .int .i64 t.2.1, .int .i64 t.2.2] := ⟨[.string t.1], [.int .i64 t.2.1, .int .i64 t.2.2], rfl, rfl, [.int .i64 t.2.1], [.int .i64 t.2.2], rfl, rfl, rfl⟩
theorem KF_M (t : Fr) (W : World) (base : Nat) (ok : Nat → Prop) : KF.M W base ok t [.int .i64 t.1, .int .i64 t.2] := ⟨[.int .i64 t.1], [.int .i64 t.2], rfl, rfl, rfl⟩
theorem str_eq (a b : ByteArray) : (a.toList == b.toList) = decide (a = b) := by
  rw [ByteArray.toList_eq, ByteArray.toList_eq]
  by_cases h : a = b
  · subst h; simp
  · rw [decide_eq_false h, beq_eq_false_iff_ne]
    exact fun e => h (bl_ext e)
theorem c2 {W : World} {b o : Nat} {v : Value} (h : W.cell? ⟨b, o + 2, none⟩ = some v) : W.cell? ⟨b, o + 1 + 1, none⟩ = some v := h
theorem quietB {P : Program} {f : FuncId} {args : Array Value} {w : World} {v : Value} (h : Calls P f args w fun e w' => e = .returned v ∧ ∃ n, w' = w.drewN n) : Calls P f args w fun e w' => e = .returned v ∧ Below w.heap.size w w' :=
  h.mono fun _ _ ⟨h, n, hn⟩ => ⟨h, by rw [hn]; exact pw_below_drewN (Below.refl _ _) n⟩
theorem round_next {p : Nat → Prop} {k : Nat} (h : ∀ j, j < k → p j) (hk : p k) : ∀ j, j < k + 1 → p j := fun j hj => (Nat.lt_succ_iff_lt_or_eq.1 hj).elim (h j) (fun e => e ▸ hk)
end Go.Proofs.Ytcklblagklojhaa.H
