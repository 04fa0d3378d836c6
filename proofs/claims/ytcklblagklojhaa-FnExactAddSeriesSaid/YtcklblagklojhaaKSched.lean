/- A statement whose order is open, by a plan: what only reckons or reads is done as soon as it may, what calls or writes comes up alone or in each order. Conditions: none. -/
import Derived.Test.YtcklblagklojhaaKSep
namespace Go.Proofs.Ytcklblagklojhaa.H
open Go.RowKit Go.Proofs.YtcklblagklojhaaW.PrintWords Go.Proofs.YtcklblagklojhaaW.PrintLast Go.Proofs.YtcklblagklojhaaW.PrintMore Go.Proofs.Ytcklblagklojhaa.M
set_option linter.unusedVariables false
set_option linter.unusedSimpArgs false
/-- A plan: p reckons, t reads under S, e calls or makes or writes, d is a last one; two, three: each of several orders. -/
inductive Plan where
  | done
  | p (i : Nat) (r : Plan)
  | t (i : Nat) (r : Plan)
  | e (i : Nat) (r : Plan)
  | d (i : Nat) (r : Plan)
  | two (i j : Nat) (r s : Plan)
  | three (i j k : Nat) (r s u : Plan)
def Plan.depth : Plan → Nat
  | .done => 0
  | .p _ r => r.depth + 1
  | .t _ r => r.depth + 1
  | .e _ r => r.depth + 1
  | .d _ r => r.depth + 1
  | .two _ _ r s => max r.depth s.depth + 1
  | .three _ _ _ r s u => max r.depth (max s.depth u.depth) + 1
section
variable (P : Program) (md : Region.Mode) (ops : Array Oper) (Q : Exit → Act → World → Prop) (S : World → Prop) (ds : List Nat)
/-- The plan fits the statement. -/
def Plan.fits : Plan → Array Bool → Bool
  | .done, l => Region.ready md ops l == []
  | .p i r, l => anyB md ops l (l.setIfInBounds i true) i && r.fits (l.setIfInBounds i true)
  | .t i r, l => takeB md ops ds l (l.setIfInBounds i true) i && r.fits (l.setIfInBounds i true)
  | .e i r, l => readyB md ops l (l.setIfInBounds i true) i && (!ds.contains i && r.fits (l.setIfInBounds i true))
  | .d i r, l => readyB md ops l (l.setIfInBounds i true) i && (ds.contains i && r.fits (l.setIfInBounds i true))
  | .two i j r s, l => (Region.ready md ops l == [i, j] && l.setIfInBounds i true == l.setIfInBounds i true && l.setIfInBounds j true == l.setIfInBounds j true) && ((!ds.contains i && !ds.contains j) && (r.fits (l.setIfInBounds i true) && s.fits (l.setIfInBounds j true)))
  | .three i j k r s u, l => (Region.ready md ops l == [i, j, k] && l.setIfInBounds i true == l.setIfInBounds i true && l.setIfInBounds j true == l.setIfInBounds j true && l.setIfInBounds k true == l.setIfInBounds k true) && ((!ds.contains i && (!ds.contains j && !ds.contains k)) && (r.fits (l.setIfInBounds i true) && (s.fits (l.setIfInBounds j true) && u.fits (l.setIfInBounds k true))))
/-- One operation of the plan. -/
def OpAt (i : Nat) (K : Oper → Prop) : Prop := ∀ o, ops[i]? = some o → K o
/-- An operation is run, S is shown behind it. -/
def RunE (i : Nat) (a : Act) (w : World) (r : Act → World → Prop) : Prop := OpAt ops i fun o => ∀ K : Act → World → Prop, Shut (∀ a' w', S w' → (S w' → r a' w') → K a' w') → Stp P ops Q o a w K
def RunD (i : Nat) (a : Act) (w : World) (r : Act → World → Prop) : Prop := OpAt ops i fun o => ∀ K : Act → World → Prop, Shut (∀ a' w', r a' w' → K a' w') → Stp P ops Q o a w K
/-- The plan's walk. -/
def Plan.run : Plan → Act → World → Prop
  | .done, a, w => Q .normal a w
  | .p i r, a, w => OpAt ops i fun o => ∃ v, Yields P ops o v a ∧ Plan.run r (a.put o.dst v) w
  | .t i r, a, w => OpAt ops i fun o => ∃ v, YieldsIf P ops S o v a ∧ S w ∧ Plan.run r (a.put o.dst v) w
  | .e i r, a, w => RunE P ops Q S i a w (Plan.run r)
  | .d i r, a, w => RunD P ops Q i a w (Plan.run r)
  | .two i j r s, a, w => RunE P ops Q S i a w (Plan.run r) ∧ RunE P ops Q S j a w (Plan.run s)
  | .three i j k r s u, a, w => RunE P ops Q S i a w (Plan.run r) ∧ RunE P ops Q S j a w (Plan.run s) ∧ RunE P ops Q S k a w (Plan.run u)
end
section
variable {P : Program} {md : Region.Mode} {ops : Array Oper} {Q : Exit → Act → World → Prop} {S : World → Prop} {ds : List Nat}
theorem ready_ops {i : Nat} {l : Array Bool} (h : i ∈ Region.ready md ops l) : ∃ o, ops[i]? = some o := by
  obtain ⟨_, o, ho, _⟩ := mem_ready.1 h
  exact ⟨o, ho⟩
theorem ready_any {i : Nat} {l l' : Array Bool} (h : anyB md ops l l' i = true) : ∃ o, ops[i]? = some o := by
  simp only [anyB, Bool.and_eq_true] at h
  exact ready_ops (by simpa using h.1.2)
theorem ready_take {i : Nat} {l l' : Array Bool} (h : takeB md ops ds l l' i = true) : ∃ o, ops[i]? = some o := by
  simp only [takeB, Bool.and_eq_true] at h
  exact ready_ops (by simpa using h.1.1.1.2)
theorem ready_one {i : Nat} {l l' : Array Bool} (h : readyB md ops l l' i = true) : ∃ o, ops[i]? = some o := by
  simp only [readyB, Bool.and_eq_true, beq_iff_eq] at h
  exact ready_ops (by rw [h.1]; exact List.mem_singleton.2 rfl)
theorem Plan.sound (hQ : ∀ c (a : Act) (d : Option Tmp) (v : Value) (w : World), Q (.panic c) (a.put d v) w → Q (.panic c) a w) (p : Plan) :
    ∀ (l : Array Bool) (fuel : Nat) (a : Act) (w : World), p.fits md ops ds l = true → p.depth ≤ fuel → p.run P ops Q S a w → wpAnyLast P md ops Q S ds fuel l a w := by
  have toE : ∀ {r : Plan} {i : Nat} {o : Oper} {l' : Array Bool} {f : Nat} {a : Act} {w : World} (ih : ∀ (l : Array Bool) (fuel : Nat) (a : Act) (w : World), r.fits md ops ds l = true → r.depth ≤ fuel → r.run P ops Q S a w → wpAnyLast P md ops Q S ds fuel l a w)
      (hf : r.fits md ops ds l' = true) (hd : r.depth ≤ f) (ho : ops[i]? = some o) (hr : RunE P ops Q S i a w (r.run P ops Q S)) (K : Act → World → Prop) (hK : Shut (∀ a' w', S w' → (S w' → wpAnyLast P md ops Q S ds f l' a' w') → K a' w')),
      if Region.wanted o (yielded ops a.tmps) = true then Oper.wp P o a w K Q else K (a.put o.dst undef) w := fun ih hf hd ho hr K hK => hr _ ho K (fun a' w' hS h => hK.out a' w' hS (fun hs => ih _ _ _ _ hf hd (h hs)))
  induction p with
  | done => exact fun l fuel a w hf _ hr => done_ hf hr
  | p i r ih =>
    intro l fuel a w hf hd hr
    simp only [Plan.fits, Bool.and_eq_true] at hf
    obtain ⟨f, rfl⟩ : ∃ f, fuel = f + 1 := ⟨fuel - 1, by simp only [Plan.depth] at hd; omega⟩
    obtain ⟨o, ho⟩ := ready_any hf.1
    obtain ⟨v, hy, hrun⟩ := hr o ho
    exact pure_ _ ho rfl hf.1 (fun c a w => hQ c a o.dst v w) hy rfl (ih _ _ _ _ hf.2 (by simp only [Plan.depth] at hd; omega) hrun)
  | t i r ih =>
    intro l fuel a w hf hd hr
    simp only [Plan.fits, Bool.and_eq_true] at hf
    obtain ⟨f, rfl⟩ : ∃ f, fuel = f + 1 := ⟨fuel - 1, by simp only [Plan.depth] at hd; omega⟩
    obtain ⟨o, ho⟩ := ready_take hf.1
    obtain ⟨v, hy, hS, hrun⟩ := hr o ho
    exact take_ _ ho rfl hf.1 (fun c a w => hQ c a o.dst v w) hy hS rfl (ih _ _ _ _ hf.2 (by simp only [Plan.depth] at hd; omega) hrun)
  | e i r ih =>
    intro l fuel a w hf hd hr
    simp only [Plan.fits, Bool.and_eq_true, Bool.not_eq_true', List.contains_eq_mem, decide_eq_false_iff_not] at hf
    obtain ⟨f, rfl⟩ : ∃ f, fuel = f + 1 := ⟨fuel - 1, by simp only [Plan.depth] at hd; omega⟩
    obtain ⟨o, ho⟩ := ready_one hf.1
    exact one_ _ ho rfl hf.1 hf.2.1 (toE ih hf.2.2 (by simp only [Plan.depth] at hd; omega) ho hr)
  | d i r ih =>
    intro l fuel a w hf hd hr
    simp only [Plan.fits, Bool.and_eq_true, List.contains_eq_mem, decide_eq_true_eq] at hf
    obtain ⟨f, rfl⟩ : ∃ f, fuel = f + 1 := ⟨fuel - 1, by simp only [Plan.depth] at hd; omega⟩
    obtain ⟨o, ho⟩ := ready_one hf.1
    exact last_ _ ho rfl hf.1 hf.2.1 (fun K hK => hr _ ho K (fun a' w' h => hK.out a' w' (ih _ _ _ _ hf.2.2 (by simp only [Plan.depth] at hd; omega) h)))
  | two i j r s ihr ihs =>
    intro l fuel a w hf hd hr
    simp only [Plan.fits] at hf
    rw [Bool.and_eq_true] at hf
    obtain ⟨h0, hf⟩ := hf
    simp only [Bool.and_eq_true, Bool.not_eq_true', List.contains_eq_mem, decide_eq_false_iff_not] at hf
    simp only [Plan.depth] at hd
    obtain ⟨f, rfl⟩ : ∃ f, fuel = f + 1 := ⟨fuel - 1, by omega⟩
    have hrd : Region.ready md ops l = [i, j] := by
      simp only [Bool.and_eq_true, beq_iff_eq] at h0
      exact h0.1.1
    obtain ⟨o, ho⟩ := ready_ops (i := i) (l := l) (md := md) (ops := ops) (by rw [hrd]; simp)
    obtain ⟨o', ho'⟩ := ready_ops (i := j) (l := l) (md := md) (ops := ops) (by rw [hrd]; simp)
    exact two_ _ _ ho ho' rfl rfl h0 hf.1.1 hf.1.2 (toE ihr hf.2.1 (by omega) ho hr.1) (toE ihs hf.2.2 (by omega) ho' hr.2)
  | three i j k r s u ihr ihs ihu =>
    intro l fuel a w hf hd hr
    simp only [Plan.fits] at hf
    rw [Bool.and_eq_true] at hf
    obtain ⟨h0, hf⟩ := hf
    simp only [Bool.and_eq_true, Bool.not_eq_true', List.contains_eq_mem, decide_eq_false_iff_not] at hf
    simp only [Plan.depth] at hd
    obtain ⟨f, rfl⟩ : ∃ f, fuel = f + 1 := ⟨fuel - 1, by omega⟩
    have hrd : Region.ready md ops l = [i, j, k] := by
      simp only [Bool.and_eq_true, beq_iff_eq] at h0
      exact h0.1.1.1
    obtain ⟨o, ho⟩ := ready_ops (i := i) (l := l) (md := md) (ops := ops) (by rw [hrd]; simp)
    obtain ⟨o', ho'⟩ := ready_ops (i := j) (l := l) (md := md) (ops := ops) (by rw [hrd]; simp)
    obtain ⟨o'', ho''⟩ := ready_ops (i := k) (l := l) (md := md) (ops := ops) (by rw [hrd]; simp)
    exact three_ _ _ _ ho ho' ho'' rfl rfl rfl h0 hf.1.1 hf.1.2.1 hf.1.2.2 (toE ihr hf.2.1 (by omega) ho hr.1) (toE ihs hf.2.2.1 (by omega) ho' hr.2.1) (toE ihu hf.2.2.2 (by omega) ho'' hr.2.2)
theorem plan_start {id : Nat} {a : Act} {w : World} (p : Plan) (S : World → Prop) (ds : List Nat) (hm : P.follows .mixedOrders = true) (hf : (Nat.ble p.depth ops.size && p.fits .any ops ds (Array.replicate ops.size false)) = true)
    (hQ : ∀ c (a : Act) (d : Option Tmp) (v : Value) (w : World), Q (.panic c) (a.put d v) w → Q (.panic c) a w) (hS : S w.drew) (h : S w.drew → p.run P ops Q S a w.drew) : (Code.region id ops true).wp P Q a w := by
  rw [Bool.and_eq_true] at hf
  exact wp_region_last_drew hm hS (fun hs => Plan.sound hQ p _ _ _ _ hf.2 (Nat.le_of_ble_eq_true hf.1) (h hs))
theorem gate_p {i : Nat} {r : Plan} {a : Act} {w : World} (h : (Plan.p i r).run P ops Q S a w) : (Plan.p i r).run P ops Q S a w := h
theorem gate_t {i : Nat} {r : Plan} {a : Act} {w : World} (h : (Plan.t i r).run P ops Q S a w) : (Plan.t i r).run P ops Q S a w := h
theorem run_p {i : Nat} {r : Plan} {N : Option Tmp} {o : Oper} {v : Value} {a : Act} {w : World} (ho : ops.toList[i]? = some o) (hN : o.dst = N) (hy : Yields P ops o v a) {a' : Act} (ha : a.put N v = a') (h : r.run P ops Q S a' w) : (Plan.p i r).run P ops Q S a w := by
  intro o' ho'
  rw [Array.getElem?_toList] at ho
  obtain rfl := Option.some.inj (ho.symm.trans ho')
  subst hN ha
  exact ⟨v, hy, h⟩
theorem run_t {i : Nat} {r : Plan} {N : Option Tmp} {o : Oper} {v : Value} {a : Act} {w : World} (ho : ops.toList[i]? = some o) (hN : o.dst = N) (hS : S w) (hy : YieldsIf P ops S o v a) {a' : Act} (ha : a.put N v = a') (h : r.run P ops Q S a' w) : (Plan.t i r).run P ops Q S a w := by
  intro o' ho'
  rw [Array.getElem?_toList] at ho
  obtain rfl := Option.some.inj (ho.symm.trans ho')
  subst hN ha
  exact ⟨v, hy, hS, h⟩
theorem run_e {i : Nat} {r : Plan} {o : Oper} {a : Act} {w : World} (ho : ops.toList[i]? = some o) (h : ∀ K : Act → World → Prop, Shut (∀ a' w', S w' → (S w' → r.run P ops Q S a' w') → K a' w') → Stp P ops Q o a w K) : (Plan.e i r).run P ops Q S a w := by
  intro o' ho'
  rw [Array.getElem?_toList] at ho
  obtain rfl := Option.some.inj (ho.symm.trans ho')
  exact h
theorem run_d {i : Nat} {r : Plan} {o : Oper} {a : Act} {w : World} (ho : ops.toList[i]? = some o) (h : ∀ K : Act → World → Prop, Shut (∀ a' w', r.run P ops Q S a' w' → K a' w') → Stp P ops Q o a w K) : (Plan.d i r).run P ops Q S a w := by
  intro o' ho'
  rw [Array.getElem?_toList] at ho
  obtain rfl := Option.some.inj (ho.symm.trans ho')
  exact h
theorem run_two {i j : Nat} {r s : Plan} {a : Act} {w : World} (h1 : (Plan.e i r).run P ops Q S a w) (h2 : (Plan.e j s).run P ops Q S a w) : (Plan.two i j r s).run P ops Q S a w := ⟨h1, h2⟩
theorem run_three {i j k : Nat} {r s u : Plan} {a : Act} {w : World} (h1 : (Plan.e i r).run P ops Q S a w) (h2 : (Plan.e j s).run P ops Q S a w) (h3 : (Plan.e k u).run P ops Q S a w) : (Plan.three i j k r s u).run P ops Q S a w := ⟨h1, h2, h3⟩
theorem run_done {a : Act} {w : World} (h : Q .normal a w) : Plan.done.run P ops Q S a w := h
theorem goE {r : Act → World → Prop} {K : Act → World → Prop} (hK : Shut (∀ a' w', S w' → (S w' → r a' w') → K a' w')) {a : Act} {w : World} (hS : S w) {a' : Act} (ha : a = a') (h : S w → r a' w) : K a w := by
  subst ha
  exact hK.out _ _ hS h
theorem goD {r : Act → World → Prop} {K : Act → World → Prop} (hK : Shut (∀ a' w', r a' w' → K a' w')) {a : Act} {w : World} {a' : Act} (ha : a = a') (h : r a' w) : K a w := by
  subst ha
  exact hK.out _ _ h
/-- What a region leaves, told once. -/
def Told (Q : Exit → Act → World → Prop) (T : Act → World → Prop) : Exit → Act → World → Prop
  | .normal, a, w => T a w
  | e, a, w => Q e a w
theorem region_told {id : Nat} {b : Bool} {a : Act} {w : World} (T : Act → World → Prop) (h1 : (Code.region id ops b).wp P (Told Q T) a w) (h2 : ∀ a' w', T a' w' → Q .normal a' w') : (Code.region id ops b).wp P Q a w :=
  Code.wp_mono (fun e a w h => by cases e <;> first | exact h2 _ _ h | exact h) h1
end
end Go.Proofs.Ytcklblagklojhaa.H
