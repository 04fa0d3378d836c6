/- Rows of fractions as blocks; making, copying. Conditions: none. -/
import Derived.Test.YtcklblagklojhaaKTerm
import Derived.Laws.MakeOwn
namespace Go.Proofs.Ytcklblagklojhaa.H
open Go.RowKit Go.Proofs.YtcklblagklojhaaW.PrintWords Go.Proofs.YtcklblagklojhaaW.PrintLast Go.Proofs.YtcklblagklojhaaW.PrintMore Go.Proofs.Ytcklblagklojhaa.M
set_option linter.unusedVariables false
set_option linter.unusedSimpArgs false
variable {w W W1 : World} {S : Nat → Prop} {L : List As}
def fp (a : Fr) : List Value := [.int .i64 a.1, .int .i64 a.2]
def fc (l : List Fr) : List Value := l.flatMap fp
theorem fc_length (l : List Fr) : (fc l).length = l.length * 2 := by
  unfold fc
  induction l with
  | nil => rfl
  | cons t r ih => rw [List.flatMap_cons, List.length_append, ih, List.length_cons, Nat.add_mul]; simp [fp]; omega
theorem fc_append (l m : List Fr) : fc (l ++ m) = fc l ++ fc m := by unfold fc; rw [List.flatMap_append]
theorem fc_one (l : List Fr) : ∀ v ∈ fc l, v.oneCell' = true := by
  intro v hv
  obtain ⟨a, _, hv⟩ := List.mem_flatMap.1 hv
  simp only [fp, List.mem_cons, List.not_mem_nil, or_false] at hv
  rcases hv with rfl | rfl <;> rfl
theorem fc_split (l : List Fr) (k : Nat) (hk : k < l.length) : fc l = fc (l.take k) ++ (fp l[k] ++ fc (l.drop (k + 1))) := by
  conv => lhs; rw [← List.take_append_drop k l]
  rw [fc_append, List.drop_eq_getElem_cons hk]
  rfl
theorem fc_at (l : List Fr) (k j : Nat) (hk : k < l.length) (hj : j < 2) : (fc l)[k * 2 + j]? = (fp l[k])[j]? := by
  rw [fc_split l k hk, List.getElem?_append_right (by rw [fc_length, List.length_take]; omega), fc_length, List.length_take]
  rw [show k * 2 + j - min k l.length * 2 = j by rw [Nat.min_eq_left (by omega)]; omega, List.getElem?_append_left (by simpa [fp] using hj)]
theorem fc_set (l : List Fr) (k : Nat) (t : Fr) (hk : k < l.length) : fc (l.set k t) = (fc l).take (k * 2) ++ fp t ++ (fc l).drop (k * 2 + 2) := by
  have hl : (fc (l.take k)).length = k * 2 := by rw [fc_length, List.length_take, Nat.min_eq_left (by omega)]
  rw [fc_split l k hk, List.take_append_of_le_length (by omega), List.take_of_length_le (by omega)]
  rw [List.drop_append, List.drop_of_length_le (by omega), hl, List.nil_append, show k * 2 + 2 - k * 2 = 2 by omega]
  rw [List.drop_append_of_le_length (by simp [fp])]
  rw [show (fp l[k]).drop 2 = [] by simp [fp], List.nil_append]
  rw [List.set_eq_take_append_cons_drop, if_pos hk, fc_append, List.append_assoc]
  rfl
theorem over_fc (l : List Fr) (k : Nat) (t : Fr) (hk : k < l.length) : over (fc l).toArray (k * 2) (fp t) = (fc (l.set k t)).toArray := by
  unfold over
  rw [List.toList_toArray, fc_set l k t hk]
  rfl
theorem reps_fc {W : World} {base : Nat} {ok : Nat → Prop} : ∀ {l : List Fr} {cs : List Value}, Reps (KF.M W base ok) 2 l cs → cs = fc l
  | [], cs, h => List.eq_nil_of_length_eq_zero (by have := h.1; simpa using this)
  | t :: r, cs, h => by
    have h0 := h.2 0 t rfl
    have hlen := h.1
    simp only [List.length_cons] at hlen
    rw [Nat.zero_mul, List.drop_zero] at h0
    obtain ⟨c0, c1, e, k0, k1⟩ := h0
    have k0' : c0 = [.int .i64 t.1] := k0
    have k1' : c1 = [.int .i64 t.2] := k1
    have e3 : cs.take 2 = fp t := by rw [e, k0', k1']; rfl
    have hr : Reps (KF.M W base ok) 2 r (cs.drop 2) := by
      refine ⟨by rw [List.length_drop]; omega, fun j p hj => ?_⟩
      have := h.2 (j + 1) p (by simpa using hj)
      rw [List.drop_drop]
      rwa [show 2 + j * 2 = (j + 1) * 2 by omega]
    have := reps_fc hr
    rw [← List.take_append_drop 2 cs, e3, this]; rfl
/-- A row of fractions that fills its block. -/
abbrev tv (g : Nat) (l : List Fr) : As := bx g 24 (fc l).toArray
theorem tv_cell {g k : Nat} {l : List Fr} (h : (tv g l).I W) (j : Nat) (hk : k < l.length) (hj : j < 2) {v : Value} (hv : (fp l[k])[j]? = some v) : W.cell? ⟨g, k * 2 + j, none⟩ = some v := by
  refine (blk_cell h (k * 2 + j)).trans ?_
  rw [List.getElem?_toArray, fc_at l k j hk hj]
  exact hv
section
variable {P : Program} {ops : Array Oper} {o : Oper} {a : Act} {Q : Exit → Act → World → Prop} {Kc : Act → World → Prop}
theorem stp_makeF (hw : Region.wanted o (yielded ops a.tmps) = true) (HS : Aside0 (Mod w W S L)) {N : Tmp} (hd : o.dst = some N) (t : TypeId) (x y : Operand) (ho : o.op = .makeSlice t x y) (m : Nat) (hx : a.eval x = .int .i64 (m : Int)) (hy : a.eval y = .int .i64 (m : Int))
    (ht : P.underlying t = some (.slice 24)) (hinfo : (P.info? 24).map (fun i => (i.zero, i.size, i.bytes)) = some (some (.agg #[(.int .i64 0), (.int .i64 0)]), 2, 16)) (hl : m ≤ 1000000)
    (h : ∀ g w1, w.heap.size ≤ g → Aside0 (Mod w w1 S (tv g (List.replicate m (0, 0)) :: L)) → Kc (a.put o.dst (.slice (some ⟨g, 0, none⟩) m m)) w1) : Stp P ops Q o a W Kc := by
  obtain ⟨i0, hi, hzz⟩ := Option.map_eq_some_iff.1 hinfo
  simp only [Prod.mk.injEq] at hzz
  obtain ⟨hz0, hz1, hz2⟩ := hzz
  have hr := run_make (P := P) W t 24 i0 _ ht hi hz0 .i64 .i64 (m : Int) (m : Int) (by omega) (by omega) (by rw [hz2]; omega) (by omega)
  simp only [Int.toNat_natCast] at hr
  rw [hz1] at hr
  have hcs : (madeCells (Value.agg #[(.int .i64 0), (.int .i64 0)]).cells (m * 2)).toList = fc (List.replicate m (0, 0)) :=
    reps_fc (W := W) (base := 0) (ok := fun _ => True) (Kd.reps_made (size := 2) (R := KF.M W 0 (fun _ => True)) (z := Value.agg #[(.int .i64 0), (.int .i64 0)]) rfl (by omega) (KF_M (0, 0) _ _ _) m)
  refine stp_value (v := .slice (some ⟨W.heap.size, 0, none⟩) m m) (W1 := W.alloc (.cells (madeCells (Value.agg #[(.int .i64 0), (.int .i64 0)]).cells (m * 2)) 24)) hw rfl (by simp [execOp, ho, hx, hy, hr]) ?_
  refine h _ _ HS.out.size ⟨HS.out.new (A := [tv W.heap.size (List.replicate m (0, 0))]) (Sep.one (below_alloc (Below.refl _ _) _) ?_ (fun k hk => by rw [show k = W.heap.size from hk]; exact Nat.le_refl _))⟩
  show (W.alloc _).heap[W.heap.size]? = _
  rw [← hcs, Array.toArray_toList]
  exact blk_new W _
/-- copy between rows of fractions: n of them, to place k of an own block. -/
theorem stp_copyF (hw : Region.wanted o (yielded ops a.tmps) = true) (HS : Aside0 (Mod w W S L)) (d s : Operand) (dT sT : TypeId) (ho : o.op = .call { callee := .builtin .copy, args := #[d, s], argTypes := #[dT, sT] })
    (hu : P.underlying dT = some (.slice 24)) (hs : (P.info? 24).map (·.size) = some 2) (i : Nat) {g k dLen dCap sLen sCap : Nat} {ad : Addr} {l zs : List Fr} (hi : L[i]? = some (tv g l)) (hd : a.eval d = .slice (some ⟨g, k * 2, none⟩) dLen dCap) (hsv : a.eval s = .slice (some ad) sLen sCap)
    (hn : zs.length = min sLen dLen) (hsrc : ∀ j v, (fc zs)[j]? = some v → W.cell? (ad.add j) = some v) (hfit : k + zs.length ≤ l.length)
    (h : ∀ w1, Aside0 (Mod w w1 S (L.set i (tv g (l.take k ++ zs ++ l.drop (k + zs.length))))) → Kc (a.put o.dst (.int .i64 (zs.length : Int))) w1) : Stp P ops Q o a W Kc := by
  have hl := run_loadCells_list (P := P) W ad (fc zs) hsrc
  have hfz := fc_length zs
  have hfl := fc_length l
  have hst := run_storeCells_at P g (k * 2) 24 (fc zs) 0 (fc l).toArray W (HS.out.at hi) (by rw [List.size_toArray]; omega) (fc_one zs)
  have hrun : (Builtin.copy_ #[dT, sT] o.type #[.slice (some ⟨g, k * 2, none⟩) dLen dCap, .slice (some ad) sLen sCap]).run P W = .ok (goInt zs.length) (W.setRow g (over (fc l).toArray (k * 2) (fc zs))) := by
    cases hq : P.info? 24 with
    | none => simp [hq] at hs
    | some i =>
      have h2 : i.size = 2 := by simpa [hq] using hs
      have hn' : Nat.min sLen dLen = zs.length := hn.symm
      rw [hfz] at hl
      simp only [Nat.add_zero] at hst
      simp [Builtin.copy_, run_underlying hu, Builtin.lenOf, Builtin.firstCells, sizeOf, typeInfo, hq, h2, hn', hl, hst, over]
  have he : over (fc l).toArray (k * 2) (fc zs) = (fc (l.take k ++ zs ++ l.drop (k + zs.length))).toArray := by
    unfold over
    rw [List.toList_toArray, fc_append, fc_append, hfz]
    have ht : ∀ m, m ≤ l.length → fc l = fc (l.take m) ++ fc (l.drop m) ∧ (fc (l.take m)).length = m * 2 := fun m hm => ⟨by rw [← fc_append, List.take_append_drop], by rw [fc_length, List.length_take, Nat.min_eq_left hm]⟩
    obtain ⟨e1, l1⟩ := ht k (by omega)
    obtain ⟨e2, l2⟩ := ht (k + zs.length) hfit
    have h1 : (fc l).take (k * 2) = fc (l.take k) := by rw [e1, ← l1, List.take_left']; rfl
    have h2 : (fc l).drop (k * 2 + zs.length * 2) = fc (l.drop (k + zs.length)) := by rw [e2, show k * 2 + zs.length * 2 = (fc (l.take (k + zs.length))).length by rw [l2]; omega, List.drop_left']; rfl
    rw [h1, h2]
  refine stp_value (v := .int .i64 (zs.length : Int)) (W1 := W.setRow g (over (fc l).toArray (k * 2) (fc zs))) hw rfl (by simp [execOp, resolve, invoke, builtin, ho, hd, hsv, hrun, goInt, Result.andThen]) ?_
  rw [he]
  exact h _ ⟨HS.out.turn hi (setRow_mod (HS.out.at hi)) (fun k hk => .inl hk)⟩
end
end Go.Proofs.Ytcklblagklojhaa.H
