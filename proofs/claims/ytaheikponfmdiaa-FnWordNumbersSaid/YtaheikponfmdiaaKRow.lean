/- Rows of terms as blocks: written place by place. Conditions: none. -/
import Derived.Test.YtaheikponfmdiaaKSep
namespace Go.Proofs.Ytaheikponfmdiaa.H
open Go.RowKit Go.Proofs.YtaheikponfmdiaaW.PrintWords Go.Proofs.YtaheikponfmdiaaW.PrintLast Go.Proofs.YtaheikponfmdiaaW.PrintMore Go.Proofs.Ytaheikponfmdiaa.M
set_option linter.unusedVariables false
set_option linter.unusedSimpArgs false
variable {w W W1 : World} {S : Nat → Prop} {L : List As}
/-- A term's cells. -/
def tc (t : Tm) : List Value := [.string t.1, .int .i64 t.2.1, .int .i64 t.2.2]
def flat (l : Ts) : List Value := l.flatMap tc
theorem flat_length (l : Ts) : (flat l).length = l.length * 3 := by
  unfold flat
  induction l with
  | nil => rfl
  | cons t r ih => rw [List.flatMap_cons, List.length_append, ih, List.length_cons, Nat.add_mul]; simp [tc]; omega
theorem flat_append (l m : Ts) : flat (l ++ m) = flat l ++ flat m := by unfold flat; rw [List.flatMap_append]
theorem tc_one (t : Tm) : ∀ v ∈ tc t, v.oneCell' = true := by
  intro v hv
  simp only [tc, List.mem_cons, List.not_mem_nil, or_false] at hv
  rcases hv with rfl | rfl | rfl <;> rfl
theorem flat_split (l : Ts) (k : Nat) (hk : k < l.length) : flat l = flat (l.take k) ++ (tc (l.getD k zT) ++ flat (l.drop (k + 1))) := by
  rw [getD_lt l zT k hk]
  conv => lhs; rw [← List.take_append_drop k l]
  rw [flat_append, List.drop_eq_getElem_cons hk]
  rfl
theorem flat_at (l : Ts) (k j : Nat) (hk : k < l.length) (hj : j < 3) : (flat l)[k * 3 + j]? = (tc (l.getD k zT))[j]? := by
  rw [flat_split l k hk, List.getElem?_append_right (by rw [flat_length, List.length_take]; omega), flat_length, List.length_take]
  rw [show k * 3 + j - min k l.length * 3 = j by rw [Nat.min_eq_left (by omega)]; omega, List.getElem?_append_left (by simpa [tc] using hj)]
theorem flat_set (l : Ts) (k : Nat) (t : Tm) (hk : k < l.length) : flat (l.set k t) = (flat l).take (k * 3) ++ (tc t ++ (flat l).drop (k * 3 + 3)) := by
  have hl : (flat (l.take k)).length = k * 3 := by rw [flat_length, List.length_take, Nat.min_eq_left (by omega)]
  rw [flat_split l k hk, List.take_append_of_le_length (by omega), List.take_of_length_le (by omega)]
  rw [List.drop_append, List.drop_of_length_le (by omega), hl, List.nil_append, show k * 3 + 3 - k * 3 = 3 by omega]
  rw [List.drop_append_of_le_length (by simp [tc])]
  rw [show (tc (l.getD k zT)).drop 3 = [] by simp [tc], List.nil_append]
  rw [List.set_eq_take_append_cons_drop, if_pos hk, flat_append]
  rfl
/-- The inner cells of an own row of terms. -/
theorem reps_flat {W : World} {base : Nat} {ok : Nat → Prop} : ∀ {l : Ts} {cs : List Value}, Reps (KT.M W base ok) 3 l cs → cs = flat l
  | [], cs, h => List.eq_nil_of_length_eq_zero (by have := h.1; simpa using this)
  | t :: r, cs, h => by
    have h0 := h.2 0 t rfl
    have hlen := h.1
    simp only [List.length_cons] at hlen
    rw [Nat.zero_mul, List.drop_zero] at h0
    obtain ⟨c0, c12, e, k0, c1, c2, e2, k1, k2⟩ := h0
    have k0' : c0 = [.string t.1] := k0
    have k1' : c1 = [.int .i64 t.2.1] := k1
    have k2' : c2 = [.int .i64 t.2.2] := k2
    have e3 : cs.take 3 = tc t := by rw [e, e2, k0', k1', k2']; rfl
    have hr : Reps (KT.M W base ok) 3 r (cs.drop 3) := by
      refine ⟨by rw [List.length_drop]; omega, fun j p hj => ?_⟩
      have := h.2 (j + 1) p (by simpa using hj)
      rw [List.drop_drop]
      rwa [show 3 + j * 3 = (j + 1) * 3 by omega]
    have := reps_flat hr
    rw [← List.take_append_drop 3 cs, e3, this]; rfl
theorem flat_reps {W : World} {base : Nat} {ok : Nat → Prop} (l : Ts) : Reps (KT.M W base ok) 3 l (flat l) := by
  refine ⟨by rw [flat_length], fun j p hj => ?_⟩
  obtain ⟨hj1, rfl⟩ := List.getElem?_eq_some_iff.1 hj
  have : ((flat l).drop (j * 3)).take 3 = tc l[j] := by
    rw [flat_split l j hj1, List.drop_append, List.drop_of_length_le (by rw [flat_length, List.length_take]; omega), List.nil_append, flat_length, List.length_take, Nat.min_eq_left (by omega), Nat.sub_self, List.drop_zero, List.take_append_of_le_length (by simp [tc]), getD_lt l zT j hj1]
    rfl
  rw [this]
  exact KT_M _ _ _ _
/-- A row of terms in a block of its own, with spare cells. -/
abbrev tr (g e : Nat) (l : Ts) (sp : List Value) : As := bx g e (flat l ++ sp).toArray
theorem tr_R {g e cap : Nat} {l : Ts} {sp : List Value} (h : (tr g e l sp).I W) (hc : (flat l ++ sp).length = cap * 3) (hm : cap ≤ 9223372036854775807) : KT.R e W 0 (fun _ => True) (.slice (some ⟨g, 0, none⟩) l.length cap) l := by
  have hlen := flat_length l
  rw [List.length_append] at hc
  refine ⟨fun _ _ => trivial, flat l, ⟨hlen, .inr ⟨g, cap, _, rfl, Nat.zero_le _, h, by omega, by unfold maxLen; omega, ?_, ?_⟩⟩, flat_reps l⟩
  · show (flat l ++ sp).toArray.size = cap * 3
    rw [List.size_toArray, List.length_append]; omega
  · show (flat l ++ sp).take (l.length * 3) = flat l
    rw [← hlen, List.take_left']
    rfl
theorem R_tr {e n c : Nat} {A : Option Addr} {l : Ts} (h : KT.R e W 0 (fun _ => True) (.slice A n c) l) (hn : n = l.length) (hl : 0 < l.length) : ∃ g sp, A = some ⟨g, 0, none⟩ ∧ (tr g e l sp).I W ∧ (flat l ++ sp).length = c * 3 ∧ c ≤ 9223372036854775807 := by
  subst hn
  obtain ⟨_, inner, ⟨h1, h2⟩, hr⟩ := h
  have hi := reps_flat hr
  rcases h2 with ⟨h3, h4⟩ | ⟨g, cap, cur, h3, _, hg, hn, hm, hs, ht⟩
  · omega
  · injection h3 with h3 h4 h5
    subst h3 h5
    refine ⟨g, cur.toList.drop (l.length * 3), rfl, ?_, ?_, by unfold maxLen at hm; omega⟩
    · show W.heap[g]? = _
      rw [hg, ← hi, show inner = cur.toList.take (l.length * 3) from ht.symm, List.take_append_drop]
    · rw [← hi, show inner = cur.toList.take (l.length * 3) from ht.symm, List.take_append_drop]
      show cur.toList.length = c * 3
      rw [Array.length_toList]; exact hs
/-- The two forms of one assertion. -/
theorem Mod.asRow (h : Mod w W S L) {i g e cap : Nat} {l : Ts} {sp : List Value} (hi : L[i]? = some (tr g e l sp)) (hc : (flat l ++ sp).length = cap * 3) (hm : cap ≤ 9223372036854775807) : Mod w W S (L.set i (rw' KT rfl e (.slice (some ⟨g, 0, none⟩) l.length cap) l)) :=
  h.turn hi ⟨rfl, rfl, rfl, Nat.le_refl _, fun _ _ _ => rfl, fun b hb => by
    obtain rfl := List.mem_singleton.1 hb
    exact ⟨tr_R (h.at hi) hc hm, fun k hk => .inl (by have hk' : (Value.slice (some ⟨g, 0, none⟩) l.length cap).ownBlock = some k := hk; simp only [Value.ownBlock, Option.some.injEq] at hk'; exact hk'.symm)⟩, List.pairwise_singleton _ _⟩ (fun k hk => .inl (by have hk' : (Value.slice (some ⟨g, 0, none⟩) l.length cap).ownBlock = some k := hk; simp only [Value.ownBlock, Option.some.injEq] at hk'; exact hk'.symm))
theorem Mod.asBlock (h : Mod w W S L) {i g e n c : Nat} {l : Ts} {sp : List Value} (hi : L[i]? = some (rw' KT rfl e (.slice (some ⟨g, 0, none⟩) n c) l)) (hI : (tr g e l sp).I W) : Mod w W S (L.set i (tr g e l sp)) :=
  h.turn hi ⟨rfl, rfl, rfl, Nat.le_refl _, fun _ _ _ => rfl, fun b hb => by
    obtain rfl := List.mem_singleton.1 hb
    exact ⟨hI, fun k hk => .inl (by rw [show k = g from hk]; rfl)⟩, List.pairwise_singleton _ _⟩ (fun k hk => .inl (by rw [show k = g from hk]; rfl))
/-- A whole term is written. -/
theorem over_term (l : Ts) (sp : List Value) (k : Nat) (t : Tm) (hk : k < l.length) : over (flat l ++ sp).toArray (k * 3) (tc t) = (flat (l.set k t) ++ sp).toArray := by
  have hl := flat_length l
  unfold over
  simp only [List.toList_toArray]
  congr 1
  rw [flat_set l k t hk, List.take_append_of_le_length (by omega), show (tc t).length = 3 from rfl, List.drop_append_of_le_length (by omega)]
  simp only [List.append_assoc]
theorem flat_setj {j : Nat} {t : Tm} {v : Value} (hj : j < 3) : ∀ {l : Ts} {k : Nat}, k < l.length → (tc (l.getD k zT)).set j v = tc t → (flat l).set (k * 3 + j) v = flat (l.set k t)
  | [], k, h, _ => by cases h
  | a :: r, 0, _, ht => by
    rw [List.getD_cons_zero] at ht
    show (tc a ++ flat r).set (0 * 3 + j) v = tc t ++ flat r
    rw [Nat.zero_mul, Nat.zero_add, List.set_append, if_pos (by simpa [tc] using hj), ht]
  | a :: r, k + 1, h, ht => by
    rw [List.getD_cons_succ] at ht
    have ih := flat_setj hj (l := r) (k := k) (by simpa using h) ht
    show (tc a ++ flat r).set ((k + 1) * 3 + j) v = tc a ++ flat (r.set k t)
    have h3 : (tc a).length = 3 := rfl
    rw [List.set_append, if_neg (by omega), h3, show (k + 1) * 3 + j - 3 = k * 3 + j by omega, ih]
/-- One cell of a term is written. -/
theorem over_part (l : Ts) (sp : List Value) (k j : Nat) (t : Tm) (v : Value) (hk : k < l.length) (hj : j < 3) (ht : (tc (l.getD k zT)).set j v = tc t) : over (flat l ++ sp).toArray (k * 3 + j) [v] = (flat (l.set k t) ++ sp).toArray := by
  have hl := flat_length l
  unfold over
  simp only [List.toList_toArray]
  congr 1
  have hset : ∀ (x : List Value) (i : Nat), i < x.length → x.take i ++ [v] ++ x.drop (i + [v].length) = x.set i v := fun x i hi => by
    rw [List.set_eq_take_append_cons_drop, if_pos hi]; simp
  rw [hset _ _ (by rw [List.length_append]; omega), List.set_append, if_pos (by omega), flat_setj hj hk ht]
section
variable {P : Program} {ops : Array Oper} {o : Oper} {a : Act} {Q : Exit → Act → World → Prop} {Kc : Act → World → Prop}
theorem stp_put_term (hw : Region.wanted o (yielded ops a.tmps) = true) (hN : o.dst = none) {ty : TypeId} {x y : Operand} (ho : o.op = .store ty x y) (HS : Aside0 (Mod w W S L)) (i : Nat) {g e : Nat} {l : Ts} {sp : List Value} (hi : L[i]? = some (tr g e l sp)) (k : Nat) (hk : k < l.length) (t : Tm)
    (hx : a.eval x = .pointer (some ⟨g, k * 3, none⟩)) (hy : a.eval y = .agg #[.string t.1, .int .i64 t.2.1, .int .i64 t.2.2]) (hsz : (P.info? ty).map (·.size) = some 3) (h : ∀ w1, Aside0 (Mod w w1 S (L.set i (tr g e (l.set k t) sp))) → Kc a w1) : Stp P ops Q o a W Kc := by
  have hl := flat_length l
  refine stp_set hw hN ho HS i (k * 3) (cs' := (flat (l.set k t) ++ sp).toArray) hi hx hy hsz ?_ (over_term l sp k t hk) h
  rw [Bool.and_eq_true, decide_eq_true_eq]
  refine ⟨?_, rfl⟩
  show k * 3 + 3 ≤ (flat l ++ sp).toArray.size
  rw [List.size_toArray, List.length_append]; omega
theorem stp_put_part (hw : Region.wanted o (yielded ops a.tmps) = true) (hN : o.dst = none) {ty : TypeId} {x y : Operand} (ho : o.op = .store ty x y) (HS : Aside0 (Mod w W S L)) (i : Nat) {g e : Nat} {l : Ts} {sp : List Value} (hi : L[i]? = some (tr g e l sp)) (k j : Nat) (hk : k < l.length) (hj : j < 3) (t : Tm) (v : Value) (hc : v.cells = #[v])
    (hone : v.oneCell' = true) (ht : (tc (l.getD k zT)).set j v = tc t) (hx : a.eval x = .pointer (some ⟨g, k * 3 + j, none⟩)) (hy : a.eval y = v) (hsz : (P.info? ty).map (·.size) = some 1) (h : ∀ w1, Aside0 (Mod w w1 S (L.set i (tr g e (l.set k t) sp))) → Kc a w1) : Stp P ops Q o a W Kc := by
  have hl := flat_length l
  refine stp_set hw hN ho HS i (k * 3 + j) (cs' := (flat (l.set k t) ++ sp).toArray) hi hx hy (by rw [hc]; exact hsz) ?_ (by rw [hc]; exact over_part l sp k j t v hk hj ht) h
  rw [hc, Bool.and_eq_true, decide_eq_true_eq]
  refine ⟨?_, by show (v.oneCell' && true) = true; rw [hone]; rfl⟩
  show k * 3 + j + 1 ≤ (flat l ++ sp).toArray.size
  rw [List.size_toArray, List.length_append]; omega
end
theorem tr_cell {g e : Nat} {l : Ts} {sp : List Value} (h : (tr g e l sp).I W) (k j : Nat) (hk : k < l.length) (hj : j < 3) {v : Value} (hv : (tc (l.getD k zT))[j]? = some v) : W.cell? ⟨g, k * 3 + j, none⟩ = some v := by
  refine (blk_cell h (k * 3 + j)).trans ?_
  rw [List.getElem?_toArray, List.getElem?_append_left (by rw [flat_length]; omega), flat_at l k j hk hj]
  exact hv
end Go.Proofs.Ytaheikponfmdiaa.H
