/- Small words for rows of terms. Conditions: none. -/
import Derived.Test.YtcklblagklojhaaKBase
import Derived.Test.YtcklblagklojhaaKFrac
import Derived.Test.YtcklblagklojhaaPureLeaf
namespace Go.Proofs.Ytcklblagklojhaa.H
open Go.RowKit Go.Proofs.YtcklblagklojhaaW.PrintWords Go.Proofs.YtcklblagklojhaaW.PrintLast Go.Proofs.YtcklblagklojhaaW.PrintMore Go.Proofs.Ytcklblagklojhaa.M
set_option linter.unusedVariables false
set_option linter.unusedSimpArgs false
def zT : Tm := (⟨#[]⟩, 0, 0)
theorem infoTerm : (Try.prog.info? 77).map (fun i => (i.zero, i.size, i.bytes)) = some (some (.agg #[(.string ⟨#[]⟩), (.int .i64 0), (.int .i64 0)]), 3, 32) := by kernel_rfl
theorem tm_at {w : World} {A : Option Addr} {n : Nat} {l : Ts} (h : KT.C w A n l) (i : Nat) (hi : i < n) :
    ∃ ad, A = some ad ∧ w.cell? (ad.add (i * 3)) = some (.string (l.getD i zT).1) ∧ w.cell? ⟨(ad.add (i * 3)).block, (ad.add (i * 3)).off + 1, none⟩ = some (.int .i64 (l.getD i zT).2.1) ∧ w.cell? ⟨(ad.add (i * 3)).block, (ad.add (i * 3)).off + 2, none⟩ = some (.int .i64 (l.getD i zT).2.2) := by
  obtain ⟨ad, c, hA, hl, ⟨c0, c12, rfl, h0, c1, c2, rfl, h1, h2⟩, hc⟩ := Kd.C_get h zT (i : Int) (by omega) (by omega)
  simp only [Int.toNat_natCast] at hc h0 h1 h2
  have h0' : c0 = [.string (l.getD i zT).1] := h0
  have h1' : c1 = [.int .i64 (l.getD i zT).2.1] := h1
  have h2' : c2 = [.int .i64 (l.getD i zT).2.2] := h2
  subst h0' h1' h2'
  exact ⟨ad, hA, hc 0 _ rfl, by rw [← add_field ad (i * 3) 1 (by omega)]; exact hc 1 _ rfl, by rw [← add_field ad (i * 3) 2 (by omega)]; exact hc 2 _ rfl⟩
theorem implInB (a b c : Int) (w : World) : Calls Try.prog 102 #[.int .i64 a, .int .i64 b, .int .i64 c] w fun e w' => e = .returned (.bool (inR a b c)) ∧ Below w.heap.size w w' := (implIn a b c w).mono fun _ _ ⟨h, n, hn⟩ => ⟨h, by rw [hn]; exact pw_below_drewN (Below.refl _ _) n⟩
theorem specInB (a b c : Int) (w : World) : Calls Try.prog 99 #[.int .i64 a, .int .i64 b, .int .i64 c] w fun e w' => e = .returned (.bool (inR a b c)) ∧ Below w.heap.size w w' := (specIn a b c w).mono fun _ _ ⟨h, n, hn⟩ => ⟨h, by rw [hn]; exact pw_below_drewN (Below.refl _ _) n⟩
theorem KT_M (W : World) (base : Nat) (ok : Nat → Prop) (t : Tm) : KT.M W base ok t [.string t.1, .int .i64 t.2.1, .int .i64 t.2.2] := ⟨[.string t.1], [.int .i64 t.2.1, .int .i64 t.2.2], rfl, rfl, [.int .i64 t.2.1], [.int .i64 t.2.2], rfl, rfl, rfl⟩
theorem filter_take {α : Type} (p : α → Bool) (l : List α) (z : α) (k : Nat) (h : k < l.length) : (l.take (k + 1)).filter p = (l.take k).filter p ++ (if p (l.getD k z) = true then [l.getD k z] else []) := by
  rw [List.take_add_one, List.filter_append, List.getElem?_eq_getElem h, List.getD_eq_getElem?_getD, List.getElem?_eq_getElem h]
  simp only [Option.toList_some, Option.getD_some, List.filter_cons, List.filter_nil]
theorem quietB {P : Program} {f : FuncId} {args : Array Value} {w : World} {v : Value} (h : Calls P f args w fun e w' => e = .returned v ∧ ∃ n, w' = w.drewN n) : Calls P f args w fun e w' => e = .returned v ∧ Below w.heap.size w w' :=
  h.mono fun _ _ ⟨h, n, hn⟩ => ⟨h, by rw [hn]; exact pw_below_drewN (Below.refl _ _) n⟩
theorem implCompareB (a b : ByteArray) (ha : a.size ≤ 1048576) (hb : b.size ≤ 1048576) (w : World) : Calls Try.prog 181 #[.string a, .string b] w fun e w' => (∃ c : Int, e = .returned (.int .i64 c) ∧ decide (0 ≤ c) = !bef a b) ∧ Below w.heap.size w w' :=
  (implCompareQ a b ha hb w).mono fun _ _ ⟨h, n, hn⟩ => ⟨h, by rw [hn]; exact pw_below_drewN (Below.refl _ _) n⟩
theorem getD_lt {α : Type} (l : List α) (z : α) (k : Nat) (h : k < l.length) : l.getD k z = l[k] := by rw [List.getD_eq_getElem?_getD, List.getElem?_eq_getElem h]; rfl
/-- Term j and its place are as they should be. -/
def okAt (d n : Nat) (l : Ts) (j : Nat) : Bool := isTm d n (l.getD j zT) && (decide (j = 0) || bef (l.getD (j - 1) zT).1 (l.getD j zT).1)
theorem isTs_ok {d n : Nat} {l : Ts} : isTs d n l = true ↔ ∀ j, j < l.length → okAt d n l j = true := by
  rw [isTs_at]
  constructor
  · intro h j hj
    obtain ⟨h1, h2⟩ := h j hj
    rw [okAt, getD_lt l zT j hj, h1, Bool.true_and, Bool.or_eq_true, decide_eq_true_eq]
    rcases Nat.eq_zero_or_pos j with e | e
    · exact .inl e
    · rw [getD_lt l zT (j - 1) (by omega)]; exact .inr (h2 e)
  · intro h j hj
    have h1 := h j hj
    rw [okAt, getD_lt l zT j hj, Bool.and_eq_true, Bool.or_eq_true, decide_eq_true_eq] at h1
    refine ⟨h1.1, fun h0 => ?_⟩
    rcases h1.2 with e | e
    · omega
    · rwa [getD_lt l zT (j - 1) (by omega)] at e
theorem isTs_no {d n : Nat} {l : Ts} {j : Nat} (hj : j < l.length) (h : okAt d n l j = false) : isTs d n l = false := by
  rw [← Bool.not_eq_true, isTs_ok]
  intro hh
  rw [hh j hj] at h
  cases h
theorem bnd_get {l : Ts} (h : bnd l = true) (j : Nat) : (l.getD j zT).1.size ≤ 1048576 := by
  by_cases hj : j < l.length
  · rw [getD_lt l zT j hj]; exact (bnd_iff.1 h).2 _ (List.getElem_mem _)
  · rw [List.getD_eq_getElem?_getD, List.getElem?_eq_none (by omega)]; show (ByteArray.mk #[]).size ≤ _; decide
theorem okAt_w {d n : Nat} {l : Ts} {k : Nat} (h : (isWd d (l.getD k zT).1 && decide ((l.getD k zT).1.size ≤ n)) = false) : okAt d n l k = false := by
  rw [okAt, isTm, ← Bool.and_assoc, h, Bool.false_and, Bool.false_and]
theorem okAt_f {d n : Nat} {l : Ts} {k : Nat} (h : isFr (l.getD k zT).2.1 (l.getD k zT).2.2 = false) : okAt d n l k = false := by
  rw [okAt, isTm, h]; simp
theorem okAt_z {d n : Nat} {l : Ts} {k : Nat} (h : (l.getD k zT).2.1 = 0) : okAt d n l k = false := by
  rw [okAt, isTm, h]; simp
theorem okAt_b {d n : Nat} {l : Ts} {k : Nat} (h0 : 0 < k) (h : bef (l.getD (k - 1) zT).1 (l.getD k zT).1 = false) : okAt d n l k = false := by
  rw [okAt, h, decide_eq_false (by omega)]; simp
theorem okAt_yes {d n : Nat} {l : Ts} {k : Nat} (h1 : (isWd d (l.getD k zT).1 && decide ((l.getD k zT).1.size ≤ n)) = true) (h2 : isFr (l.getD k zT).2.1 (l.getD k zT).2.2 = true) (h3 : (l.getD k zT).2.1 ≠ 0) (h4 : k = 0 ∨ bef (l.getD (k - 1) zT).1 (l.getD k zT).1 = true) : okAt d n l k = true := by
  rw [Bool.and_eq_true] at h1
  rw [okAt, isTm, h1.1, h1.2, h2, decide_eq_true h3]
  rcases h4 with e | e
  · rw [decide_eq_true e]; rfl
  · rw [e]; simp
end Go.Proofs.Ytcklblagklojhaa.H
