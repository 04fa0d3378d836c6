/- Plain facts and contracts of functions that the law's walk uses. Conditions: those that stand in each statement. -/
import Derived.Test.YtibjkjhpfmmjoaaShG2
import Derived.Laws.MakeOwn
import Derived.Test.YtibjkjhpfmmjoaaShG3
import Derived.Test.YtibjkjhpfmmjoaaShG1
set_option linter.unusedVariables false
set_option linter.unusedSimpArgs false
namespace Go.Proofs.Ytibjkjhpfmmjoaa.H
open Go.RowKit Go.Proofs.YtibjkjhpfmmjoaaW.PrintWords Go.Proofs.YtibjkjhpfmmjoaaW.PrintLast Go.Proofs.YtibjkjhpfmmjoaaW.PrintMore Go.Proofs.Ytibjkjhpfmmjoaa.M
set_option linter.unusedVariables false
set_option linter.unusedSimpArgs false
variable {w W W1 : World} {S : Nat → Prop} {L : List As}
def fp (a : Fr) : List Value := [.int .i64 a.1, .int .i64 a.2]
def fc (l : List Fr) : List Value := l.flatMap fp
theorem fc_length (l : List Fr) : (fc l).length = l.length * 2 := by
  unfold fc
  induction l with
  | nil => rfl
  | cons t r ih => rw [List.flatMap_cons, List.length_append, ih, List.length_cons, Nat.add_mul]; simp [fp]; omega
theorem fc_append (l m : List Fr) : fc (l ++ m) = fc l ++ fc m := by unfold fc; rw [List.flatMap_append]
theorem fc_one (l : List Fr) : ∀ v ∈ fc l, v.oneCell' = true := by
  intro v hv
  obtain ⟨a, _, hv⟩ := List.mem_flatMap.1 hv
  simp only [fp, List.mem_cons, List.not_mem_nil, or_false] at hv
  rcases hv with rfl | rfl <;> rfl
theorem fc_split (l : List Fr) (k : Nat) (hk : k < l.length) : fc l = fc (l.take k) ++ (fp l[k] ++ fc (l.drop (k + 1))) := by
  conv => lhs; rw [← List.take_append_drop k l]
  rw [fc_append, List.drop_eq_getElem_cons hk]
  rfl
theorem fc_at (l : List Fr) (k j : Nat) (hk : k < l.length) (hj : j < 2) : (fc l)[k * 2 + j]? = (fp l[k])[j]? := by
  rw [fc_split l k hk, List.getElem?_append_right (by rw [fc_length, List.length_take]; omega), fc_length, List.length_take]
  rw [show k * 2 + j - min k l.length * 2 = j by rw [Nat.min_eq_left (by omega)]; omega, List.getElem?_append_left (by simpa [fp] using hj)]
theorem fc_set (l : List Fr) (k : Nat) (t : Fr) (hk : k < l.length) : fc (l.set k t) = (fc l).take (k * 2) ++ fp t ++ (fc l).drop (k * 2 + 2) := by
  have hl : (fc (l.take k)).length = k * 2 := by rw [fc_length, List.length_take, Nat.min_eq_left (by omega)]
  rw [fc_split l k hk, List.take_append_of_le_length (by omega), List.take_of_length_le (by omega)]
  rw [List.drop_append, List.drop_of_length_le (by omega), hl, List.nil_append, show k * 2 + 2 - k * 2 = 2 by omega]
  rw [List.drop_append_of_le_length (by simp [fp])]
  rw [show (fp l[k]).drop 2 = [] by simp [fp], List.nil_append]
  rw [List.set_eq_take_append_cons_drop, if_pos hk, fc_append, List.append_assoc]
  rfl
theorem over_fc (l : List Fr) (k : Nat) (t : Fr) (hk : k < l.length) : over (fc l).toArray (k * 2) (fp t) = (fc (l.set k t)).toArray := by
  unfold over
  rw [List.toList_toArray, fc_set l k t hk]
  rfl
theorem reps_fc {W : World} {base : Nat} {ok : Nat → Prop} : ∀ {l : List Fr} {cs : List Value}, Reps (KF.M W base ok) 2 l cs → cs = fc l
  | [], cs, h => List.eq_nil_of_length_eq_zero (by have := h.1; simpa using this)
  | t :: r, cs, h => by
    have h0 := h.2 0 t rfl
    have hlen := h.1
    simp only [List.length_cons] at hlen
    rw [Nat.zero_mul, List.drop_zero] at h0
    obtain ⟨c0, c1, e, k0, k1⟩ := h0
    have k0' : c0 = [.int .i64 t.1] := k0
    have k1' : c1 = [.int .i64 t.2] := k1
    have e3 : cs.take 2 = fp t := by rw [e, k0', k1']; rfl
    have hr : Reps (KF.M W base ok) 2 r (cs.drop 2) := by
      refine ⟨by rw [List.length_drop]; omega, fun j p hj => ?_⟩
      have := h.2 (j + 1) p (by simpa using hj)
      rw [List.drop_drop]
      rwa [show 2 + j * 2 = (j + 1) * 2 by omega]
    have := reps_fc hr
    rw [← List.take_append_drop 2 cs, e3, this]; rfl
abbrev tv (g : Nat) (l : List Fr) : As := bx g 34 (fc l).toArray
theorem tv_cell {g k : Nat} {l : List Fr} (h : (tv g l).I W) (j : Nat) (hk : k < l.length) (hj : j < 2) {v : Value} (hv : (fp l[k])[j]? = some v) : W.cell? ⟨g, k * 2 + j, none⟩ = some v := by
  refine (blk_cell h (k * 2 + j)).trans ?_
  rw [List.getElem?_toArray, fc_at l k j hk hj]
  exact hv
section
variable {P : Program} {ops : Array Oper} {o : Oper} {a : Act} {Q : Exit → Act → World → Prop} {Kc : Act → World → Prop}
theorem stp_makeF (hw : Region.wanted o (yielded ops a.tmps) = true) (HS : Aside0 (Mod w W S L)) {N : Tmp} (hd : o.dst = some N) (t : TypeId) (x y : Operand) (ho : o.op = .makeSlice t x y) (m : Nat) (hx : a.eval x = .int .i64 (m : Int)) (hy : a.eval y = .int .i64 (m : Int))
    (ht : P.underlying t = some (.slice 34)) (hinfo : (P.info? 34).map (fun i => (i.zero, i.size, i.bytes)) = some (some (.agg #[(.int .i64 0), (.int .i64 0)]), 2, 16)) (hl : m ≤ 1000000)
    (h : ∀ g w1, w.heap.size ≤ g → Aside0 (Mod w w1 S (tv g (List.replicate m (0, 0)) :: L)) → Kc (a.put o.dst (.slice (some ⟨g, 0, none⟩) m m)) w1) : Stp P ops Q o a W Kc := by
  obtain ⟨i0, hi, hzz⟩ := Option.map_eq_some_iff.1 hinfo
  simp only [Prod.mk.injEq] at hzz
  obtain ⟨hz0, hz1, hz2⟩ := hzz
  have hr := run_make (P := P) W t 34 i0 _ ht hi hz0 .i64 .i64 (m : Int) (m : Int) (by omega) (by omega) (by rw [hz2]; omega) (by omega)
  simp only [Int.toNat_natCast] at hr
  rw [hz1] at hr
  have hcs : (madeCells (Value.agg #[(.int .i64 0), (.int .i64 0)]).cells (m * 2)).toList = fc (List.replicate m (0, 0)) :=
    reps_fc (W := W) (base := 0) (ok := fun _ => True) (Kd.reps_made (size := 2) (R := KF.M W 0 (fun _ => True)) (z := Value.agg #[(.int .i64 0), (.int .i64 0)]) rfl (by omega) (KF_M (0, 0) _ _ _) m)
  refine stp_value (v := .slice (some ⟨W.heap.size, 0, none⟩) m m) (W1 := W.alloc (.cells (madeCells (Value.agg #[(.int .i64 0), (.int .i64 0)]).cells (m * 2)) 34)) hw rfl (by simp [execOp, ho, hx, hy, hr]) ?_
  refine h _ _ HS.out.size ⟨HS.out.new (A := [tv W.heap.size (List.replicate m (0, 0))]) (Sep.one (below_alloc (Below.refl _ _) _) ?_ (fun k hk => by rw [show k = W.heap.size from hk]; exact Nat.le_refl _))⟩
  show (W.alloc _).heap[W.heap.size]? = _
  rw [← hcs, Array.toArray_toList]
  exact blk_new W _
theorem stp_copyF (hw : Region.wanted o (yielded ops a.tmps) = true) (HS : Aside0 (Mod w W S L)) (d s : Operand) (dT sT : TypeId) (ho : o.op = .call { callee := .builtin .copy, args := #[d, s], argTypes := #[dT, sT] })
    (hu : P.underlying dT = some (.slice 34)) (hs : (P.info? 34).map (·.size) = some 2) (i : Nat) {g k dLen dCap sLen sCap : Nat} {ad : Addr} {l zs : List Fr} (hi : L[i]? = some (tv g l)) (hd : a.eval d = .slice (some ⟨g, k * 2, none⟩) dLen dCap) (hsv : a.eval s = .slice (some ad) sLen sCap)
    (hn : zs.length = min sLen dLen) (hsrc : ∀ j v, (fc zs)[j]? = some v → W.cell? (ad.add j) = some v) (hfit : k + zs.length ≤ l.length)
    (h : ∀ w1, Aside0 (Mod w w1 S (L.set i (tv g (l.take k ++ zs ++ l.drop (k + zs.length))))) → Kc (a.put o.dst (.int .i64 (zs.length : Int))) w1) : Stp P ops Q o a W Kc := by
  have hl := run_loadCells_list (P := P) W ad (fc zs) hsrc
  have hfz := fc_length zs
  have hfl := fc_length l
  have hst := run_storeCells_at P g (k * 2) 34 (fc zs) 0 (fc l).toArray W (HS.out.at hi) (by rw [List.size_toArray]; omega) (fc_one zs)
  have hrun : (Builtin.copy_ #[dT, sT] o.type #[.slice (some ⟨g, k * 2, none⟩) dLen dCap, .slice (some ad) sLen sCap]).run P W = .ok (goInt zs.length) (W.setRow g (over (fc l).toArray (k * 2) (fc zs))) := by
    cases hq : P.info? 34 with
    | none => simp [hq] at hs
    | some i =>
      have h2 : i.size = 2 := by simpa [hq] using hs
      have hn' : Nat.min sLen dLen = zs.length := hn.symm
      rw [hfz] at hl
      simp only [Nat.add_zero] at hst
      simp [Builtin.copy_, run_underlying hu, Builtin.lenOf, Builtin.firstCells, sizeOf, typeInfo, hq, h2, hn', hl, hst, over]
  have he : over (fc l).toArray (k * 2) (fc zs) = (fc (l.take k ++ zs ++ l.drop (k + zs.length))).toArray := by
    unfold over
    rw [List.toList_toArray, fc_append, fc_append, hfz]
    have ht : ∀ m, m ≤ l.length → fc l = fc (l.take m) ++ fc (l.drop m) ∧ (fc (l.take m)).length = m * 2 := fun m hm => ⟨by rw [← fc_append, List.take_append_drop], by rw [fc_length, List.length_take, Nat.min_eq_left hm]⟩
    obtain ⟨e1, l1⟩ := ht k (by omega)
    obtain ⟨e2, l2⟩ := ht (k + zs.length) hfit
    have h1 : (fc l).take (k * 2) = fc (l.take k) := by rw [e1, ← l1, List.take_left']; rfl
    have h2 : (fc l).drop (k * 2 + zs.length * 2) = fc (l.drop (k + zs.length)) := by rw [e2, show k * 2 + zs.length * 2 = (fc (l.take (k + zs.length))).length by rw [l2]; omega, List.drop_left']; rfl
    rw [h1, h2]
  refine stp_value (v := .int .i64 (zs.length : Int)) (W1 := W.setRow g (over (fc l).toArray (k * 2) (fc zs))) hw rfl (by simp [execOp, resolve, invoke, builtin, ho, hd, hsv, hrun, goInt, Result.andThen]) ?_
  rw [he]
  exact h _ ⟨HS.out.turn hi (setRow_mod (HS.out.at hi)) (fun k hk => .inl hk)⟩
end
end Go.Proofs.Ytibjkjhpfmmjoaa.H
namespace Go.Proofs.Ytibjkjhpfmmjoaa.H
open Go.RowKit Go.Proofs.YtibjkjhpfmmjoaaW.PrintWords Go.Proofs.YtibjkjhpfmmjoaaW.PrintLast Go.Proofs.YtibjkjhpfmmjoaaW.PrintMore Go.Proofs.Ytibjkjhpfmmjoaa.M
attribute [local go_sem] max2_int min2_int max_two min_two max_three min_three max_four min_four
set_option linter.unusedVariables false
set_option linter.unusedSimpArgs false
set_option maxRecDepth 100000
def sizes : List Nat := [2, 3, 4, 5, 6, 7, 13, 15, 31, 40, 63, 121]
theorem bitsMul2 (w : World) : Calls Try.prog 140 #[.int .u64 1, .int .u64 2] w fun e w' => e = .returned (.tuple #[.int .u64 0, .int .u64 2]) ∧ w' = w := by
  go_enter Try.func140, Try.ntmps140
  go_wp2
  go_ret2
  exact ⟨rfl, rfl⟩
theorem bitsMul3 (w : World) : Calls Try.prog 140 #[.int .u64 1, .int .u64 3] w fun e w' => e = .returned (.tuple #[.int .u64 0, .int .u64 3]) ∧ w' = w := by
  go_enter Try.func140, Try.ntmps140
  go_wp2
  go_ret2
  exact ⟨rfl, rfl⟩
theorem bitsMul4 (w : World) : Calls Try.prog 140 #[.int .u64 1, .int .u64 4] w fun e w' => e = .returned (.tuple #[.int .u64 0, .int .u64 4]) ∧ w' = w := by
  go_enter Try.func140, Try.ntmps140
  go_wp2
  go_ret2
  exact ⟨rfl, rfl⟩
theorem bitsMul5 (w : World) : Calls Try.prog 140 #[.int .u64 1, .int .u64 5] w fun e w' => e = .returned (.tuple #[.int .u64 0, .int .u64 5]) ∧ w' = w := by
  go_enter Try.func140, Try.ntmps140
  go_wp2
  go_ret2
  exact ⟨rfl, rfl⟩
theorem bitsMul6 (w : World) : Calls Try.prog 140 #[.int .u64 1, .int .u64 6] w fun e w' => e = .returned (.tuple #[.int .u64 0, .int .u64 6]) ∧ w' = w := by
  go_enter Try.func140, Try.ntmps140
  go_wp2
  go_ret2
  exact ⟨rfl, rfl⟩
theorem bitsMul7 (w : World) : Calls Try.prog 140 #[.int .u64 1, .int .u64 7] w fun e w' => e = .returned (.tuple #[.int .u64 0, .int .u64 7]) ∧ w' = w := by
  go_enter Try.func140, Try.ntmps140
  go_wp2
  go_ret2
  exact ⟨rfl, rfl⟩
theorem bitsMul13 (w : World) : Calls Try.prog 140 #[.int .u64 1, .int .u64 13] w fun e w' => e = .returned (.tuple #[.int .u64 0, .int .u64 13]) ∧ w' = w := by
  go_enter Try.func140, Try.ntmps140
  go_wp2
  go_ret2
  exact ⟨rfl, rfl⟩
theorem bitsMul15 (w : World) : Calls Try.prog 140 #[.int .u64 1, .int .u64 15] w fun e w' => e = .returned (.tuple #[.int .u64 0, .int .u64 15]) ∧ w' = w := by
  go_enter Try.func140, Try.ntmps140
  go_wp2
  go_ret2
  exact ⟨rfl, rfl⟩
theorem bitsMul31 (w : World) : Calls Try.prog 140 #[.int .u64 1, .int .u64 31] w fun e w' => e = .returned (.tuple #[.int .u64 0, .int .u64 31]) ∧ w' = w := by
  go_enter Try.func140, Try.ntmps140
  go_wp2
  go_ret2
  exact ⟨rfl, rfl⟩
theorem bitsMul40 (w : World) : Calls Try.prog 140 #[.int .u64 1, .int .u64 40] w fun e w' => e = .returned (.tuple #[.int .u64 0, .int .u64 40]) ∧ w' = w := by
  go_enter Try.func140, Try.ntmps140
  go_wp2
  go_ret2
  exact ⟨rfl, rfl⟩
theorem bitsMul63 (w : World) : Calls Try.prog 140 #[.int .u64 1, .int .u64 63] w fun e w' => e = .returned (.tuple #[.int .u64 0, .int .u64 63]) ∧ w' = w := by
  go_enter Try.func140, Try.ntmps140
  go_wp2
  go_ret2
  exact ⟨rfl, rfl⟩
theorem bitsMul121 (w : World) : Calls Try.prog 140 #[.int .u64 1, .int .u64 121] w fun e w' => e = .returned (.tuple #[.int .u64 0, .int .u64 121]) ∧ w' = w := by
  go_enter Try.func140, Try.ntmps140
  go_wp2
  go_ret2
  exact ⟨rfl, rfl⟩
theorem bitsMul (N : Nat) (h : N ∈ sizes) (w : World) : Calls Try.prog 140 #[.int .u64 1, .int .u64 (N : Int)] w fun e w' => e = .returned (.tuple #[.int .u64 0, .int .u64 (N : Int)]) ∧ Below w.heap.size w w' := by
  simp only [sizes, List.mem_cons, List.not_mem_nil, or_false] at h
  rcases h with rfl | rfl | rfl | rfl | rfl | rfl | rfl | rfl | rfl | rfl | rfl | rfl
  · exact (bitsMul2 w).mono fun _ _ ⟨h, e⟩ => ⟨h, by rw [e]; exact Below.refl _ _⟩
  · exact (bitsMul3 w).mono fun _ _ ⟨h, e⟩ => ⟨h, by rw [e]; exact Below.refl _ _⟩
  · exact (bitsMul4 w).mono fun _ _ ⟨h, e⟩ => ⟨h, by rw [e]; exact Below.refl _ _⟩
  · exact (bitsMul5 w).mono fun _ _ ⟨h, e⟩ => ⟨h, by rw [e]; exact Below.refl _ _⟩
  · exact (bitsMul6 w).mono fun _ _ ⟨h, e⟩ => ⟨h, by rw [e]; exact Below.refl _ _⟩
  · exact (bitsMul7 w).mono fun _ _ ⟨h, e⟩ => ⟨h, by rw [e]; exact Below.refl _ _⟩
  · exact (bitsMul13 w).mono fun _ _ ⟨h, e⟩ => ⟨h, by rw [e]; exact Below.refl _ _⟩
  · exact (bitsMul15 w).mono fun _ _ ⟨h, e⟩ => ⟨h, by rw [e]; exact Below.refl _ _⟩
  · exact (bitsMul31 w).mono fun _ _ ⟨h, e⟩ => ⟨h, by rw [e]; exact Below.refl _ _⟩
  · exact (bitsMul40 w).mono fun _ _ ⟨h, e⟩ => ⟨h, by rw [e]; exact Below.refl _ _⟩
  · exact (bitsMul63 w).mono fun _ _ ⟨h, e⟩ => ⟨h, by rw [e]; exact Below.refl _ _⟩
  · exact (bitsMul121 w).mono fun _ _ ⟨h, e⟩ => ⟨h, by rw [e]; exact Below.refl _ _⟩
theorem sizes_le {N : Nat} (h : N ∈ sizes) : 2 ≤ N ∧ N ≤ 121 := by
  simp only [sizes, List.mem_cons, List.not_mem_nil, or_false] at h
  omega
theorem fr_one {w : World} {A : Option Addr} {z : Fr} (h : KF.C w A 1 [z]) : ∃ ad, A = some ad ∧ ∀ j v, (fc [z])[j]? = some v → w.cell? (ad.add j) = some v := by
  obtain ⟨ad, c, hA, hl, ⟨c0, c1, rfl, h0, h1⟩, hc⟩ := Kd.C_get h (0, 0) 0 (by omega) (by omega)
  have h0' : c0 = [.int .i64 z.1] := h0
  have h1' : c1 = [.int .i64 z.2] := h1
  subst h0' h1'
  refine ⟨ad, hA, fun j v hj => ?_⟩
  have := hc j v hj
  rwa [show Int.toNat 0 * KF.sz + j = j by simp] at this
def rep (N m : Nat) (z : Fr) : List Fr := List.replicate m z ++ List.replicate (N - m) (0, 0)
theorem rep_length {N m : Nat} (z : Fr) (h : m ≤ N) : (rep N m z).length = N := by simp [rep]; omega
theorem rep_more {N m k : Nat} (z : Fr) (h : m + k ≤ N) : (rep N m z).take m ++ List.replicate k z ++ (rep N m z).drop (m + (List.replicate k z).length) = rep N (m + k) z := by
  unfold rep
  rw [List.length_replicate, List.take_left' (by simp), List.drop_append, List.length_replicate, List.drop_of_length_le (by simp), List.nil_append, show m + k - m = k by omega, List.drop_replicate, List.replicate_append_replicate, show N - m - k = N - (m + k) by omega]
theorem rep_cells {N m k j : Nat} {z : Fr} {v : Value} (hk : k ≤ m) (hj : (fc (List.replicate k z))[j]? = some v) : (fc (rep N m z)).toArray[j]? = some v := by
  rw [List.getElem?_toArray, show rep N m z = List.replicate k z ++ (List.replicate (m - k) z ++ List.replicate (N - m) (0, 0)) by unfold rep; rw [← List.append_assoc, List.replicate_append_replicate, show k + (m - k) = m by omega], fc_append, List.getElem?_append_left (List.getElem?_eq_some_iff.1 hj).1]
  exact hj
set_option maxHeartbeats 8000000 in
theorem slicesRepeat (A : Option Addr) (c : Nat) (z : Fr) (N : Nat) (w : World) (hr : KF.C w A 1 [z]) (hN : N ∈ sizes) :
    Calls Try.prog 125 #[.slice A 1 c, .int .i64 (N : Int)] w fun e w' => ∃ g, e = .returned (.slice (some ⟨g, 0, none⟩) N N) ∧ Sep w w' [tv g (List.replicate N z)] := by
  obtain ⟨h2, h121⟩ := sizes_le hN
  obtain ⟨ad, rfl, hsrc⟩ := fr_one hr
  have HSRC := Aside0.mk hsrc
  have HS := Aside0.mk (Sep.refl w)
  have HU := Aside0.mk (show IntKind.u64.wrap (N : Int) = N from IntWalk.u64_in _ ⟨by omega, by omega⟩)
  have hu := HU.out
  have hn0 : ¬ ((N : Int) < 0) := by omega
  have hn1 : decide (9223372036854775807 < (N : Int)) = false := decide_eq_false (by omega)
  clear hr hsrc
  go_enter Try.func125, Try.ntmps125
  go_wp2_with (first | (go_at_call 140; refine (bitsMul N hN _).mono ?_; rintro e_ w1 ⟨rfl, hb⟩; replace HS := sB HS hb; clear hb) | ((with_reducible refine gate_dst (N := 30) rfl ?_); refine wpList_stp (fun K hK => ?_); refine stp_makeF (by rfl) HS rfl 90 _ _ rfl N rfl rfl Try.underlying90 infoFrac (by omega) ?_; clear HS; intro g_v w1 hg_v HS; refine hK _ _ ?_; clear hK K) | ((with_reducible refine gate_builtin (b := .copy) (xs := #[.tmp 31, .tmp 32]) rfl ?_); refine wpList_stp (fun K hK => ?_); refine stp_copyF (by rfl) HS _ _ 90 90 rfl Try.underlying90 (by kernel_rfl) 0 (k := 0) (zs := [z]) rfl rfl rfl (by show 1 = min 1 N; omega) (fun j v hj => HS.out.old (HSRC.out j v hj)) (by simp; omega) ?_; clear HS; intro w1 HS; simp only [List.set_cons_zero] at HS; refine hK _ _ ?_; clear hK K))
  have hy : (List.replicate N ((0, 0) : Fr)).take 0 ++ [z] ++ (List.replicate N (0, 0)).drop (0 + [z].length) = rep N 1 z := by
    have := rep_more (N := N) (m := 0) (k := 1) z (by omega)
    simp [rep] at this ⊢
  rw [hy] at HS
  clear hy hu hn1
  go_loopw [8] (fun x w' => ∃ m : Nat, 1 ≤ m ∧ m ≤ N ∧ x = .int .i64 (m : Int) ∧ Aside0 (Mod w w' No [tv g_v (rep N m z)])) (fun x _ => N - (intOf x).toNat)
  case atStart => exact ⟨1, by omega, by omega, rfl, HS⟩
  case round =>
    clear HS
    obtain ⟨m, hm1, hmN, rfl, HS⟩ := hrel
    by_cases hlt : m < N
    · obtain ⟨k, hk⟩ : ∃ k, k = min m (N - m) := ⟨_, rfl⟩
      have hk1 : 1 ≤ k := by omega
      have hkm : k ≤ m := by omega
      have hmk : m + k ≤ N := by omega
      have HK := Aside0.mk (show (List.replicate k z).length = min m (N - m) by rw [List.length_replicate]; exact hk)
      have HF := Aside0.mk (show m + (List.replicate k z).length ≤ (rep N m z).length by rw [List.length_replicate, rep_length z hmN]; exact hmk)
      have HM := Aside0.mk (rep_more (N := N) z hmk)
      have HWm := Aside0.mk (show wrap64 ((m : Int) + (k : Int)) = ((m + k : Nat) : Int) by rw [wrap_id (by omega) (by omega)]; omega)
      clear hk
      have h0 : (0 : Int) ≤ m := by omega
      have h1 : (m : Int) ≤ N := by omega
      have h3 : ¬ (N = m) := by omega
      have h4 : ((N : Int) - (m : Int)).toNat = N - m := by omega
      go_wp2
      have hw1 := HWm.out
      have hw2 := (i64_w _).trans HWm.out
      replace HS := sD HS
      refine ps (.p 0 (.p 1 (.p 2 (.p 3 (.p 4 (.p 5 (.p 6 (.e 7 (.p 8 (.p 9 .done)))))))))) (fun w' => True) [] trivial (fun hHeld => ?_)
      repeat (first | ((with_reducible refine gate_p ?_); refine rp rfl rfl ?_))
      refine run_e rfl (fun K hK => ?_)
      refine stp_copyF (by rfl) HS _ _ 90 90 rfl Try.underlying90 (by kernel_rfl) 0 (k := m) (zs := List.replicate k z) rfl rfl rfl HK.out (fun j v hj => by rw [add_plain]; exact HS.out.c 0 j rfl (rep_cells hkm hj)) HF.out ?_
      clear HS
      intro w1 HS
      simp only [List.set_cons_zero] at HS
      rw [HM.out] at HS
      refine ge hK trivial (fun hHeld => ?_)
      clear hK K
      repeat (first | ((with_reducible refine gate_p ?_); refine rp rfl rfl ?_))
      refine run_done ?_
      clear hHeld
      clear hw1 hw2
      go_wp2
      go_roundw
      case rel => exact ⟨m + k, by omega, hmk, by first | rfl | rw [HWm.out], HS⟩
      case measure => simp [intOf]; omega
    · obtain rfl : m = N := by omega
      go_wp2
      go_ret
      refine ⟨g_v, rfl, ?_⟩
      have := HS.out
      rwa [show rep m m z = List.replicate m z by simp [rep]] at this
end Go.Proofs.Ytibjkjhpfmmjoaa.H
namespace Go.Proofs.Ytibjkjhpfmmjoaa.H
open Go.RowKit Go.Proofs.YtibjkjhpfmmjoaaW.PrintWords Go.Proofs.YtibjkjhpfmmjoaaW.PrintLast Go.Proofs.YtibjkjhpfmmjoaaW.PrintMore Go.Proofs.Ytibjkjhpfmmjoaa.M
attribute [local go_sem] max2_int min2_int max_two min_two max_three min_three max_four min_four
set_option linter.unusedVariables false
set_option linter.unusedSimpArgs false
theorem implTimes (a1 a2 b1 b2 : Int) (w : World) (ha : small (a1, a2)) (hb : small (b1, b2)) (h0 : a2 * b2 ≠ 0) : Calls Try.prog 129 #[.agg #[.int .i64 a1, .int .i64 a2], .agg #[.int .i64 b1, .int .i64 b2]] w fun e w' =>
    e = .returned (.tuple #[.agg #[.int .i64 (rnum (a1 * b1) (a2 * b2)), .int .i64 (rden (a1 * b1) (a2 * b2))], .bool (okN (a1 * b1) (a2 * b2))]) ∧ Below w.heap.size w w' := by
  unfold small at ha hb
  obtain ⟨x1, x2, x3, x4⟩ := ha
  obtain ⟨y1, y2, y3, y4⟩ := hb
  have H0 := Lib.hid h0
  clear h0
  obtain ⟨n0, m0⟩ := small_mul (a := a1) (b := b1) ⟨x1, x2⟩ ⟨y1, y2⟩
  have hw0 : wrap64 (a1 * b1) = a1 * b1 := wrap_id (by omega) (by omega)
  have hv0 : IntKind.i64.wrap (a1 * b1) = a1 * b1 := (i64_w _).trans hw0
  obtain ⟨n1, m1⟩ := small_mul (a := a2) (b := b2) ⟨x3, x4⟩ ⟨y3, y4⟩
  have hw1 : wrap64 (a2 * b2) = a2 * b2 := wrap_id (by omega) (by omega)
  have hv1 : IntKind.i64.wrap (a2 * b2) = a2 * b2 := (i64_w _).trans hw1
  clear x1 x2 x3 x4 y1 y2 y3 y4
  go_enter Try.func129, Try.ntmps129
  go_wp2_with (first | (go_at_call 141; refine (implReduced _ _ _ H0.out (by omega) (by omega) (by omega) (by omega)).mono ?_; rintro e w1 ⟨rfl, hb1⟩; obtain ⟨hc1, hf1⟩ := bcell hb1; have hz1 := hb1.size; (try simp at hz1); (try have hy0 := Nat.lt_of_succ_le hz1); (try have hy1 := Nat.lt_of_succ_lt hy0); (try have hy2 := Nat.lt_of_succ_lt hy1); (try have hy3 := Nat.lt_of_succ_lt hy2); (try have hv0 : w.heap.size < w1.heap.size := by omega); (try have hv1 : w.heap.size + 1 < w1.heap.size := by omega); (try have hv2 : w.heap.size + 1 + 1 < w1.heap.size := by omega); have HB := Lib.hid (below_pair (w := w) (by repeat (first | exact Below.refl _ _ | (with_reducible assumption) | exact HB.out | apply below_alloc | apply pw_below_drewN | apply below_drew | refine below_set ?_ (by first | omega | (simp; done) | (simp; omega)) | assumption)) hb1); clear hb1))
  exact bodyPost_ret (v := .tuple #[.agg #[.int .i64 (rnum (a1 * b1) (a2 * b2)), .int .i64 (rden (a1 * b1) (a2 * b2))], .bool (okN (a1 * b1) (a2 * b2))]) (by simp only [results, Try.results129]; go_simp) rfl ⟨rfl, by repeat (first | exact Below.refl _ _ | (with_reducible assumption) | exact HB.out | apply below_alloc | apply pw_below_drewN | apply below_drew | refine below_set ?_ (by first | omega | (simp; done) | (simp; omega)) | assumption)⟩
theorem implPlus (a1 a2 b1 b2 : Int) (w : World) (ha : small (a1, a2)) (hb : small (b1, b2)) (h0 : a2 * b2 ≠ 0) : Calls Try.prog 135 #[.agg #[.int .i64 a1, .int .i64 a2], .agg #[.int .i64 b1, .int .i64 b2]] w fun e w' =>
    e = .returned (.tuple #[.agg #[.int .i64 (rnum (a1 * b2 + b1 * a2) (a2 * b2)), .int .i64 (rden (a1 * b2 + b1 * a2) (a2 * b2))], .bool (okN (a1 * b2 + b1 * a2) (a2 * b2))]) ∧ Below w.heap.size w w' := by
  unfold small at ha hb
  obtain ⟨x1, x2, x3, x4⟩ := ha
  obtain ⟨y1, y2, y3, y4⟩ := hb
  have H0 := Lib.hid h0
  clear h0
  obtain ⟨n0, m0⟩ := small_mul (a := a1) (b := b2) ⟨x1, x2⟩ ⟨y3, y4⟩
  have hw0 : wrap64 (a1 * b2) = a1 * b2 := wrap_id (by omega) (by omega)
  have hv0 : IntKind.i64.wrap (a1 * b2) = a1 * b2 := (i64_w _).trans hw0
  obtain ⟨n1, m1⟩ := small_mul (a := b1) (b := a2) ⟨y1, y2⟩ ⟨x3, x4⟩
  have hw1 : wrap64 (b1 * a2) = b1 * a2 := wrap_id (by omega) (by omega)
  have hv1 : IntKind.i64.wrap (b1 * a2) = b1 * a2 := (i64_w _).trans hw1
  obtain ⟨n2, m2⟩ := small_mul (a := a2) (b := b2) ⟨x3, x4⟩ ⟨y3, y4⟩
  have hw2 : wrap64 (a2 * b2) = a2 * b2 := wrap_id (by omega) (by omega)
  have hv2 : IntKind.i64.wrap (a2 * b2) = a2 * b2 := (i64_w _).trans hw2
  clear x1 x2 x3 x4 y1 y2 y3 y4
  go_enter Try.func135, Try.ntmps135
  go_wp2_with (first | (go_at_call 141; refine (implReduced _ _ _ H0.out (by omega) (by omega) (by omega) (by omega)).mono ?_; rintro e w1 ⟨rfl, hb1⟩; obtain ⟨hc1, hf1⟩ := bcell hb1; have hz1 := hb1.size; (try simp at hz1); (try have hy0 := Nat.lt_of_succ_le hz1); (try have hy1 := Nat.lt_of_succ_lt hy0); (try have hy2 := Nat.lt_of_succ_lt hy1); (try have hy3 := Nat.lt_of_succ_lt hy2); (try have hv0 : w.heap.size < w1.heap.size := by omega); (try have hv1 : w.heap.size + 1 < w1.heap.size := by omega); (try have hv2 : w.heap.size + 1 + 1 < w1.heap.size := by omega); have HB := Lib.hid (below_pair (w := w) (by repeat (first | exact Below.refl _ _ | (with_reducible assumption) | exact HB.out | apply below_alloc | apply pw_below_drewN | apply below_drew | refine below_set ?_ (by first | omega | (simp; done) | (simp; omega)) | assumption)) hb1); clear hb1))
  exact bodyPost_ret (v := .tuple #[.agg #[.int .i64 (rnum (a1 * b2 + b1 * a2) (a2 * b2)), .int .i64 (rden (a1 * b2 + b1 * a2) (a2 * b2))], .bool (okN (a1 * b2 + b1 * a2) (a2 * b2))]) (by simp only [results, Try.results135]; go_simp) rfl ⟨rfl, by repeat (first | exact Below.refl _ _ | (with_reducible assumption) | exact HB.out | apply below_alloc | apply pw_below_drewN | apply below_drew | refine below_set ?_ (by first | omega | (simp; done) | (simp; omega)) | assumption)⟩
theorem implPlusF (a b : Fr) (w : World) (ha : fr a = true) (hb : fr b = true) : Calls Try.prog 135 #[.agg #[.int .i64 a.1, .int .i64 a.2], .agg #[.int .i64 b.1, .int .i64 b.2]] w fun e w' =>
    ∃ x y : Int, (∀ c, add a b = some c → c = (x, y)) ∧ e = .returned (.tuple #[.agg #[.int .i64 x, .int .i64 y], .bool (add a b).isSome]) ∧ Below w.heap.size w w' := by
  have h1 := fr_den ha
  have h2 := fr_den hb
  have h0 : a.2 * b.2 ≠ 0 := Int.mul_ne_zero (by omega) (by omega)
  refine (implPlus a.1 a.2 b.1 b.2 w (fr_small ha) (fr_small hb) h0).mono ?_
  rintro e w' ⟨rfl, hbl⟩
  refine ⟨rnum (a.1 * b.2 + b.1 * a.2) (a.2 * b.2), rden (a.1 * b.2 + b.1 * a.2) (a.2 * b.2), ?_, ?_, hbl⟩
  · intro c hc
    unfold add frac at hc
    split at hc
    · injection hc with hc; exact hc.symm
    · cases hc
  · have : (add a b).isSome = okN (a.1 * b.2 + b.1 * a.2) (a.2 * b.2) := by
      unfold add frac
      cases h : okN (a.1 * b.2 + b.1 * a.2) (a.2 * b.2) with
      | true => rw [if_pos ⟨h0, rfl⟩]; rfl
      | false => rw [if_neg (by simp)]; rfl
    rw [this]
theorem implTimesF (a b : Fr) (w : World) (ha : fr a = true) (hb : fr b = true) : Calls Try.prog 129 #[.agg #[.int .i64 a.1, .int .i64 a.2], .agg #[.int .i64 b.1, .int .i64 b.2]] w fun e w' =>
    ∃ x y : Int, (∀ c, mul a b = some c → c = (x, y)) ∧ e = .returned (.tuple #[.agg #[.int .i64 x, .int .i64 y], .bool (mul a b).isSome]) ∧ Below w.heap.size w w' := by
  have h1 := fr_den ha
  have h2 := fr_den hb
  have h0 : a.2 * b.2 ≠ 0 := Int.mul_ne_zero (by omega) (by omega)
  refine (implTimes a.1 a.2 b.1 b.2 w (fr_small ha) (fr_small hb) h0).mono ?_
  rintro e w' ⟨rfl, hbl⟩
  refine ⟨rnum (a.1 * b.1) (a.2 * b.2), rden (a.1 * b.1) (a.2 * b.2), ?_, ?_, hbl⟩
  · intro c hc
    unfold mul frac at hc
    split at hc
    · injection hc with hc; exact hc.symm
    · cases hc
  · have : (mul a b).isSome = okN (a.1 * b.1) (a.2 * b.2) := by
      unfold mul frac
      cases h : okN (a.1 * b.1) (a.2 * b.2) with
      | true => rw [if_pos ⟨h0, rfl⟩]; rfl
      | false => rw [if_neg (by simp)]; rfl
    rw [this]
end Go.Proofs.Ytibjkjhpfmmjoaa.H
namespace Go.Proofs.Ytibjkjhpfmmjoaa.M
def tabL (d n : Nat) (f : ByteArray → Fr) : List Fr := (allW d n).map f
theorem tabL_length (d n : Nat) (f : ByteArray → Fr) : (tabL d n f).length = (allW d n).length := by simp [tabL]
theorem tabL_at {d n : Nat} {f : ByteArray → Fr} {s : ByteArray} (hw : isWd d s = true) (hn : s.size ≤ n) : (tabL d n f)[num d s]? = some (f s) := by
  rw [tabL, List.getElem?_map, allW_get hw hn]; rfl
theorem tabL_set {d n : Nat} (hd : d ≤ 9) {f : ByteArray → Fr} {s : ByteArray} (hw : isWd d s = true) (hn : s.size ≤ n) (a : Fr) : (tabL d n f).set (num d s) a = tabL d n (upd f s a) := by
  apply List.ext_getElem?
  intro i
  rw [List.getElem?_set]
  have hlt : num d s < (tabL d n f).length := by rw [tabL_length]; exact num_lt' hw hn
  by_cases h : num d s = i
  · subst h
    rw [if_pos rfl, if_pos hlt, tabL, List.getElem?_map, allW_get hw hn]
    simp [upd]
  · rw [if_neg h, tabL, tabL, List.getElem?_map, List.getElem?_map]
    cases hh : (allW d n)[i]? with
    | none => rfl
    | some v =>
      have : v ≠ s := fun e => h (allW_inj hd (allW_get hw hn) (by rw [hh, e]))
      simp [upd, this]
theorem tabL_zero (d n : Nat) : List.replicate (allW d n).length ((0, 1) : Fr) = tabL d n (fun _ => (0, 1)) := by
  unfold tabL
  rw [List.map_const']
end Go.Proofs.Ytibjkjhpfmmjoaa.M
namespace Go.Proofs.Ytibjkjhpfmmjoaa.H
open Go.RowKit Go.Proofs.YtibjkjhpfmmjoaaW.PrintWords Go.Proofs.YtibjkjhpfmmjoaaW.PrintLast Go.Proofs.YtibjkjhpfmmjoaaW.PrintMore Go.Proofs.Ytibjkjhpfmmjoaa.M
attribute [local go_sem] max2_int min2_int max_two min_two max_three min_three max_four min_four
set_option linter.unusedVariables false
set_option linter.unusedSimpArgs false
set_option maxRecDepth 100000
theorem lev_size {d n : Nat} (h : lev d n = true) : (allW d n).length ∈ sizes := by
  obtain ⟨d', n', e1, e2, h1, h2, h3, h4⟩ := lev_nat' h
  have h5 := (lev_iff.1 h).2.2
  have hd : d = 1 ∨ d = 2 ∨ d = 3 := by omega
  have hn : n = 1 ∨ n = 2 ∨ n = 3 ∨ n = 4 ∨ n = 5 := by omega
  rw [allW_length]
  rcases hd with rfl | rfl | rfl <;> rcases hn with rfl | rfl | rfl | rfl | rfl <;> first | decide | (exfalso; omega)
theorem implZero (w : World) : Calls Try.prog 126 #[] w fun e w' => e = .returned (.agg #[.int .i64 0, .int .i64 1]) ∧ Below w.heap.size w w' := by
  have HS := Aside0.mk (Sep.refl w)
  go_enter Try.func126, Try.ntmps126
  go_wp2_with (first | ((with_reducible refine gate_dst (N := 0) rfl ?_); refine bxL 34 #[(.int .i64 0), (.int .i64 0)] HS ?_; clear HS; intro g_r w1 hg_r HS) | ((with_reducible refine gate_store (t := 34) (p := 0) rfl ?_); refine stL HS 0 0 #[(.int .i64 0), (.int .i64 1)] rfl rfl rfl rfl rfl ?_; clear HS; intro w1 HS))
  refine bodyPost_ret (results_cell_row rfl _ _ g_r 34 #[(.int .i64 0), (.int .i64 1)] (0, 0) _ rfl (HS.out.at (i := 0) rfl) Try.underlying34 rfl (by kernel_rfl)) rfl ?_
  exact ⟨rfl, HS.out.below⟩
theorem implWhole (k : Int) (w : World) : Calls Try.prog 86 #[.int .i64 k] w fun e w' => e = .returned (.agg #[.int .i64 k, .int .i64 1]) ∧ Below w.heap.size w w' := by
  have HS := Aside0.mk (Sep.refl w)
  go_enter Try.func86, Try.ntmps86
  go_wp2_with (first | ((with_reducible refine gate_dst (N := 2) rfl ?_); refine bxL 34 #[(.int .i64 0), (.int .i64 0)] HS ?_; clear HS; intro g_r w1 hg_r HS) | ((with_reducible refine gate_store (t := 34) (p := 2) rfl ?_); refine stL HS 0 0 #[(.int .i64 k), (.int .i64 1)] rfl rfl rfl rfl rfl ?_; clear HS; intro w1 HS))
  refine bodyPost_ret (results_cell_row rfl _ _ g_r 34 #[(.int .i64 k), (.int .i64 1)] (0, 0) _ rfl (HS.out.at (i := 0) rfl) Try.underlying34 rfl (by kernel_rfl)) rfl ?_
  exact ⟨rfl, HS.out.below⟩
abbrev tS (g v d n N : Nat) (bad : Bool) : As := bx g 92 #[.int .i64 (d : Int), .int .i64 (n : Int), .slice (some ⟨v, 0, none⟩) N N, .bool bad]
abbrev tV (v d n : Nat) (f : ByteArray → Fr) : As := tv v (tabL d n f)
abbrev nW (d n : Nat) : Nat := (allW d n).length
set_option maxHeartbeats 4000000 in
theorem implNew (d n : Nat) (hl : lev d n = true) (w : World) : Calls Try.prog 79 #[.int .i64 (d : Int), .int .i64 (n : Int)] w fun e w' =>
    ∃ g v, e = .returned (.pointer (some ⟨g, 0, none⟩)) ∧ Sep w w' [tS g v d n (nW d n) false, tV v d n (fun _ => (0, 1))] := by
  have hsz := lev_size hl
  have HZ := Aside0.mk (tabL_zero d n)
  obtain ⟨_, _, e1, e2, h1, h3, h4, h5⟩ := lev_nat' hl
  clear hl e1 e2
  have HS := Aside0.mk (Sep.refl w)
  go_enter Try.func79, Try.ntmps79
  go_wp2_with (first | (go_at_call 126; refine (implZero _).mono ?_; rintro e_ w1 ⟨rfl, hb⟩; replace HS := sB HS hb; clear hb) | ((with_reducible refine gate_dst (N := 8) rfl ?_); refine wpList_stp (fun K hK => ?_); refine stp_lit (KF) rfl 34 (by rfl) HS (xs := [((0, 1) : Fr)]) (inner := [.int .i64 0, .int .i64 1]) (by first | (go_simp; done) | (go_simp; rfl)) (fun W base ok => Reps.snoc (Reps.none _ _) (KF_M (0, 1) W base ok) rfl) (by simp) ?_; clear HS; intro A_z c_z w1 HS; refine hK _ _ ?_; clear hK K) | (go_at_call 115; refine (implAllWords d n _ h3 h5).mono ?_; rintro e_ w1 ⟨B, b, rfl, hs⟩; replace HS := sN1 HS hs; clear hs) | (go_at_call 125; refine (slicesRepeat A_z c_z (0, 1) (nW d n) _ (HS.out.reads 1 rfl) hsz).mono ?_; rintro e_ w1 ⟨g_v, rfl, hs⟩; replace HS := sN1 HS hs; clear hs; rw [HZ.out] at HS) | ((with_reducible refine gate_dst (N := 15) rfl ?_); refine bxL 92 #[(.int .i64 (d : Int)), (.int .i64 (n : Int)), (.slice (some ⟨g_v, 0, none⟩) (nW d n) (nW d n)), (.bool false)] HS ?_; clear HS; intro g_t w1 hg_t HS))
  replace HS : Aside0 (Mod _ _ _ [_, _]) := sX HS [0, 1]
  go_ret
  exact ⟨g_t, g_v, rfl, HS.out⟩
end Go.Proofs.Ytibjkjhpfmmjoaa.H
namespace Go.Proofs.Ytibjkjhpfmmjoaa.H
open Go.RowKit Go.Proofs.YtibjkjhpfmmjoaaW.PrintWords Go.Proofs.YtibjkjhpfmmjoaaW.PrintLast Go.Proofs.YtibjkjhpfmmjoaaW.PrintMore Go.Proofs.Ytibjkjhpfmmjoaa.M
attribute [local go_sem] max2_int min2_int max_two min_two max_three min_three max_four min_four
set_option linter.unusedVariables false
set_option linter.unusedSimpArgs false
set_option maxRecDepth 100000
theorem lev_bd {d n : Nat} (h : lev d n = true) : 1 ≤ d ∧ d ≤ 3 ∧ 1 ≤ n ∧ n ≤ 5 := by
  have := lev_iff.1 h
  omega
theorem tab_at {w : World} {v d n : Nat} {f : ByteArray → Fr} {s : ByteArray} (h : (tV v d n f).I w) (hw : isWd d s = true) (hn : s.size ≤ n) :
    w.cell? ⟨v, num d s * 2, none⟩ = some (.int .i64 (f s).1) ∧ w.cell? ⟨v, num d s * 2 + 1, none⟩ = some (.int .i64 (f s).2) ∧ num d s < nW d n := by
  have hlt : num d s < nW d n := num_lt' hw hn
  have hl2 : num d s < (tabL d n f).length := by rw [tabL_length]; exact hlt
  have he : (tabL d n f)[num d s] = f s := by
    have := tabL_at (f := f) hw hn
    rw [List.getElem?_eq_getElem hl2] at this
    exact Option.some.inj this
  exact ⟨tv_cell h 0 hl2 (by omega) (by rw [he]; rfl), tv_cell h 1 hl2 (by omega) (by rw [he]; rfl), hlt⟩
set_option maxHeartbeats 4000000 in
theorem implLike (g v d n N : Nat) (bad : Bool) (w : World) (hl : lev d n = true) (ht : (tS g v d n N bad).I w) : Calls Try.prog 114 #[.pointer (some ⟨g, 0, none⟩)] w fun e w' =>
    ∃ g' v', e = .returned (.pointer (some ⟨g', 0, none⟩)) ∧ Sep w w' [tS g' v' d n (nW d n) false, tV v' d n (fun _ => (0, 1))] := by
  have HT := Aside0.mk ht
  have HL := Aside0.mk hl
  have HS := Aside0.mk (Sep.refl w)
  clear ht hl
  go_enter Try.func114, Try.ntmps114
  go_wp2
  replace HS := sD HS
  refine ps (.p 0 (.p 1 (.p 2 (.p 4 (.p 5 (.p 6 (.t 3 (.t 7 (.d 8 (.p 9 .done)))))))))) (fun w' => w'.cell? ⟨g, 0, none⟩ = some (.int .i64 (d : Int)) ∧ w'.cell? ⟨g, 1, none⟩ = some (.int .i64 (n : Int))) [8] ⟨bx_c (HS.out.oldI HT.out) 0 (v := .int .i64 (d : Int)) rfl, bx_c (HS.out.oldI HT.out) 1 (v := .int .i64 (n : Int)) rfl⟩ (fun hHeld => ?_)
  repeat (first | ((with_reducible refine gate_p ?_); refine rp rfl rfl ?_) | ((with_reducible refine gate_t ?_); refine rt rfl rfl hHeld ?_))
  refine run_d rfl (fun K hK => ?_)
  refine gc Try.func79 (implNew d n HL.out _) rfl rfl ?_
  rintro e_ w1 ⟨g', v', rfl, hs⟩
  refine ⟨_, rfl, ?_⟩
  replace HS := sN2 HS hs
  clear hs
  refine gd hK ?_
  clear hK K
  repeat (first | ((with_reducible refine gate_p ?_); refine rp rfl rfl ?_) | ((with_reducible refine gate_t ?_); refine rt rfl rfl hHeld ?_))
  refine run_done ?_
  clear hHeld
  go_wp2
  go_ret
  exact ⟨g', v', rfl, HS.out⟩
set_option maxHeartbeats 4000000 in
theorem implCheck (g v d n N : Nat) (bad fits : Bool) (x y : Int) (w : World) (ht : (tS g v d n N bad).I w) :
    Calls Try.prog 128 #[.pointer (some ⟨g, 0, none⟩), .agg #[.int .i64 x, .int .i64 y], .bool fits] w fun e w' => e = .returned (.agg #[.int .i64 (if fits = true then x else 0), .int .i64 (if fits = true then y else 1)]) ∧ Mod w w' (fun k => k = g) [tS g v d n N (bad || !fits)] := by
  have HS := Aside0.mk (Mod.own1 ht)
  clear ht
  cases fits with
  | true =>
    go_enter Try.func128, Try.ntmps128
    go_wp2_with (first | ((with_reducible refine gate_dst (N := 4) rfl ?_); refine bxL 34 #[.int .i64 x, .int .i64 y] HS ?_; clear HS; intro g_a w1 hg_a HS) | ((with_reducible refine gate_dst (N := 6) rfl ?_); refine bxL 34 #[(.int .i64 0), (.int .i64 0)] HS ?_; clear HS; intro g_r w1 hg_r HS; have f1_ := HS.out.c 1 0 (v := .int .i64 x) rfl rfl; have f2_ := HS.out.c 1 1 (v := .int .i64 y) rfl rfl) | ((with_reducible refine gate_store (t := 34) (p := 6) rfl ?_); refine stL HS 0 0 #[.int .i64 x, .int .i64 y] rfl rfl rfl rfl rfl ?_; clear HS f1_ f2_; intro w1 HS))
    refine bodyPost_ret (results_cell_row rfl _ _ g_r 34 #[.int .i64 x, .int .i64 y] (0, 0) _ rfl (HS.out.at (i := 0) rfl) Try.underlying34 rfl (by kernel_rfl)) rfl ?_
    replace HS : Aside0 (Mod _ _ _ [_]) := sX HS [2]
    exact ⟨rfl, HS.out⟩
  | false =>
    go_enter Try.func128, Try.ntmps128
    go_wp2_with (first | ((with_reducible refine gate_dst (N := 4) rfl ?_); refine bxL 34 #[.int .i64 x, .int .i64 y] HS ?_; clear HS; intro g_a w1 hg_a HS) | ((with_reducible refine gate_dst (N := 6) rfl ?_); refine bxL 34 #[(.int .i64 0), (.int .i64 0)] HS ?_; clear HS; intro g_r w1 hg_r HS) | ((with_reducible refine gate_store (t := 4) (p := 11) rfl ?_); refine stL HS 2 3 #[.int .i64 (d : Int), .int .i64 (n : Int), .slice (some ⟨v, 0, none⟩) N N, (.bool true)] rfl rfl rfl rfl rfl ?_; clear HS; intro w1 HS) | (go_at_call 126; refine (implZero _).mono ?_; rintro e_ w1 ⟨rfl, hb⟩; replace HS := sB HS hb; clear hb) | ((with_reducible refine gate_store (t := 34) (p := 6) rfl ?_); refine stL HS 0 0 #[.int .i64 0, .int .i64 1] rfl rfl rfl rfl rfl ?_; clear HS; intro w1 HS))
    refine bodyPost_ret (results_cell_row rfl _ _ g_r 34 #[.int .i64 0, .int .i64 1] (0, 0) _ rfl (HS.out.at (i := 0) rfl) Try.underlying34 rfl (by kernel_rfl)) rfl ?_
    replace HS : Aside0 (Mod _ _ _ [_]) := sX HS [2]
    exact ⟨rfl, HS.out⟩
end Go.Proofs.Ytibjkjhpfmmjoaa.H
namespace Go.Proofs.Ytibjkjhpfmmjoaa.M
theorem orZ_fits {o : Option Fr} {x y : Int} (h : ∀ c, o = some c → c = (x, y)) : (if o.isSome = true then x else 0) = (orZ o).1 ∧ (if o.isSome = true then y else 1) = (orZ o).2 := by
  cases o with
  | none => exact ⟨rfl, rfl⟩
  | some c => obtain rfl := h c rfl; exact ⟨rfl, rfl⟩
theorem isSome_not {α : Type} (o : Option α) : (!o.isSome) = o.isNone := by cases o <;> rfl
theorem co_take_succ {d n : Nat} {l : Ts} (h : isTs d n l = true) {k : Nat} (hk : k < l.length) : co (l.take (k + 1)) = upd (co (l.take k)) (l.getD k H.zT).1 (l.getD k H.zT).2 := by
  have hs : Srt l := (isTs_iff.1 h).2
  have hz : l.getD k H.zT = l[k] := H.getD_lt l H.zT k hk
  rw [hz]
  funext u
  unfold upd
  have hne : ∀ t ∈ l.take k, t.1 ≠ (l[k]).1 := fun t ht e => by
    obtain ⟨j, hj, rfl⟩ := List.getElem_of_mem ht
    rw [List.length_take] at hj
    rw [List.getElem_take] at e
    have := List.pairwise_iff_getElem.1 hs j k (by omega) hk (by omega)
    rw [e, bef_irrefl] at this
    cases this
  rw [List.take_add_one, List.getElem?_eq_getElem hk]
  show co (l.take k ++ [l[k]]) u = _
  have gen : ∀ (m : Ts) (t : Tm), (∀ x ∈ m, x.1 ≠ t.1) → co (m ++ [t]) u = if u = t.1 then t.2 else co m u := by
    intro m t hm
    induction m with
    | nil =>
      rw [List.nil_append, co_cons]
      by_cases e : t.1 = u
      · rw [if_pos e, if_pos e.symm]
      · rw [if_neg e, if_neg (fun h => e h.symm)]
    | cons a m ih =>
      rw [List.cons_append, co_cons, co_cons, ih (fun x hx => hm x (List.mem_cons_of_mem _ hx))]
      have ha := hm a List.mem_cons_self
      by_cases e : a.1 = u
      · rw [if_pos e, if_pos e, if_neg (fun h => ha (e.trans h))]
      · rw [if_neg e, if_neg e]
  exact gen _ _ hne
end Go.Proofs.Ytibjkjhpfmmjoaa.M
namespace Go.Proofs.Ytibjkjhpfmmjoaa.H
open Go.RowKit Go.Proofs.YtibjkjhpfmmjoaaW.PrintWords Go.Proofs.YtibjkjhpfmmjoaaW.PrintLast Go.Proofs.YtibjkjhpfmmjoaaW.PrintMore Go.Proofs.Ytibjkjhpfmmjoaa.M
attribute [local go_sem] max2_int min2_int max_two min_two max_three min_three max_four min_four
set_option linter.unusedVariables false
set_option linter.unusedSimpArgs false
set_option maxRecDepth 100000
section
variable {P : Program} {ops : Array Oper} {o : Oper} {a : Act} {Q : Exit → Act → World → Prop} {Kc : Act → World → Prop} {w W : World} {S : Nat → Prop} {L : List As}
theorem stp_put_tab (hw : Region.wanted o (yielded ops a.tmps) = true) (hN : o.dst = none) {ty : TypeId} {x y : Operand} (ho : o.op = .store ty x y) (HS : Aside0 (Mod w W S L)) (i : Nat) {v d n k : Nat} {f : ByteArray → Fr} (hi : L[i]? = some (tV v d n f)) (s : ByteArray) (hd : d ≤ 9) (hs : isWd d s = true) (hn : s.size ≤ n) (hk : num d s = k) (c : Fr)
    (hx : a.eval x = .pointer (some ⟨v, k * 2, none⟩)) (hy : a.eval y = .agg #[.int .i64 c.1, .int .i64 c.2]) (hsz : (P.info? ty).map (·.size) = some 2) (h : ∀ w1, Aside0 (Mod w w1 S (L.set i (tV v d n (upd f s c)))) → Kc a w1) : Stp P ops Q o a W Kc := by
  subst hk
  have hlt : num d s < (tabL d n f).length := by rw [tabL_length]; exact num_lt' hs hn
  have hl := fc_length (tabL d n f)
  refine stp_set hw hN ho HS i (num d s * 2) (cs' := (fc ((tabL d n f).set (num d s) c)).toArray) hi hx hy hsz ?_ (over_fc _ _ c hlt) (by rw [tabL_set hd hs hn]; exact h)
  rw [Bool.and_eq_true, decide_eq_true_eq]
  refine ⟨?_, rfl⟩
  show num d s * 2 + 2 ≤ (fc (tabL d n f)).toArray.size
  rw [List.size_toArray]; omega
end
abbrev Own2 (g v : Nat) : Nat → Prop := fun k => k = g ∨ k = v
theorem tab_ne {w : World} {g v d n N : Nat} {bad : Bool} {f : ByteArray → Fr} (h1 : (tS g v d n N bad).I w) (h2 : (tV v d n f).I w) : g ≠ v := by
  rintro rfl
  have := Option.some.inj ((show w.heap[g]? = _ from h1).symm.trans h2)
  injection this with _ h _
  exact absurd h (by decide)
theorem tab_own {w : World} {g v d n N : Nat} {bad : Bool} {f : ByteArray → Fr} (h1 : (tS g v d n N bad).I w) (h2 : (tV v d n f).I w) : Mod w w (Own2 g v) [tS g v d n N bad, tV v d n f] := by
  have hne := tab_ne h1 h2
  refine ⟨rfl, rfl, rfl, Nat.le_refl _, fun _ _ _ => rfl, fun a ha => ?_, ?_⟩
  · simp only [List.mem_cons, List.not_mem_nil, or_false] at ha
    rcases ha with rfl | rfl
    · exact ⟨h1, fun k hk => .inl (.inl hk)⟩
    · exact ⟨h2, fun k hk => .inl (.inr hk)⟩
  · refine List.pairwise_cons.2 ⟨fun b hb k h3 h4 => ?_, List.pairwise_singleton _ _⟩
    obtain rfl := List.mem_singleton.1 hb
    exact hne ((show k = g from h3).symm.trans h4)
theorem implCheckO (g v d n N : Nat) (bad : Bool) (o : Option Fr) (x y : Int) (h : ∀ c, o = some c → c = (x, y)) (w : World) (ht : (tS g v d n N bad).I w) :
    Calls Try.prog 128 #[.pointer (some ⟨g, 0, none⟩), .agg #[.int .i64 x, .int .i64 y], .bool o.isSome] w fun e w' => e = .returned (.agg #[.int .i64 (orZ o).1, .int .i64 (orZ o).2]) ∧ Mod w w' (fun k => k = g) [tS g v d n N (bad || o.isNone)] := by
  have := implCheck g v d n N bad o.isSome x y w ht
  rwa [(orZ_fits h).1, (orZ_fits h).2, isSome_not] at this
set_option maxHeartbeats 4000000 in
theorem implAdd (g v d n : Nat) (bad : Bool) (f : ByteArray → Fr) (s : ByteArray) (a : Fr) (w : World) (hl : lev d n = true) (ht : (tS g v d n (nW d n) bad).I w) (hv : (tV v d n f).I w) (hw : isWd d s = true) (hn : s.size ≤ n) (hf : fr (f s) = true) (ha : fr a = true) :
    Calls Try.prog 104 #[.pointer (some ⟨g, 0, none⟩), .string s, .agg #[.int .i64 a.1, .int .i64 a.2]] w fun e w' => e = .returned (.tuple #[]) ∧ Mod w w' (Own2 g v) [tS g v d n (nW d n) (bad || (add (f s) a).isNone), tV v d n (upd f s (orZ (add (f s) a)))] := by
  obtain ⟨hd1, hd3, hn1, hn5⟩ := lev_bd hl
  have HS := Aside0.mk (tab_own ht hv)
  have HW := Aside0.mk hw
  have HF := Aside0.mk hf
  have HA := Aside0.mk ha
  have hs5 : s.size ≤ 5 := by omega
  have hlt : num d s < nW d n := num_lt' hw hn
  have HC := Aside0.mk (fun (W : World) (h : (tV v d n f).I W) => tab_at h hw hn)
  clear ht hv hl hw hf ha
  obtain ⟨k, hk⟩ : ∃ k, num d s = k := ⟨_, rfl⟩
  have CN := fun W => (hk ▸ implNumber d s W hd1 hd3 HW.out hs5 : Calls Try.prog 97 #[.int .i64 (d : Int), .string s] W fun e w' => e = .returned (.int .i64 ((k : Nat) : Int)) ∧ Below W.heap.size W w')
  rw [hk] at hlt HC
  have HCN := Aside0.mk CN
  have HK := Aside0.mk hk
  clear CN hk
  obtain ⟨N, hN⟩ : ∃ N, N = nW d n := ⟨_, rfl⟩
  rw [← hN] at hlt HS
  rw [← hN]
  clear hN
  have hq0 : (0 : Int) ≤ k := by omega
  have hq1 : (k : Int) < N := by omega
  obtain ⟨o, ho⟩ : ∃ o, o = add (f s) a := ⟨_, rfl⟩
  have HP := Aside0.mk (fun W => ho ▸ implPlusF (f s) a W HF.out HA.out)
  rw [← ho]
  clear ho
  go_enter Try.func104, Try.ntmps104
  go_wp2_with (first | ((with_reducible refine gate_dst (N := 5) rfl ?_); refine bxL 34 #[.int .i64 a.1, .int .i64 a.2] HS ?_; clear HS; intro g_b w1 hg_b HS; have f1_ := HS.out.c 1 0 (v := .int .i64 (d : Int)) rfl rfl) | (go_at_call 97; refine (HCN.out _).mono ?_; rintro e_ w1 ⟨rfl, hb⟩; replace HS := sB HS hb; clear hb f1_))
  replace HS := sD HS
  refine ps (.p 0 (.p 1 (.p 2 (.p 4 (.p 5 (.p 6 (.p 7 (.p 8 (.p 10 (.t 3 (.t 9 (.p 11 (.t 12 (.t 13 (.e 14 (.p 15 (.p 16 (.e 17 (.p 18 (.d 19 .done)))))))))))))))))))) (fun w' => w'.cell? ⟨g, 2, none⟩ = some (.slice (some ⟨v, 0, none⟩) N N) ∧ w'.cell? ⟨v, k * 2, none⟩ = some (.int .i64 (f s).1) ∧ w'.cell? ⟨v, k * 2 + 1, none⟩ = some (.int .i64 (f s).2) ∧ w'.cell? ⟨g_b, 0, none⟩ = some (.int .i64 a.1) ∧ w'.cell? ⟨g_b, 1, none⟩ = some (.int .i64 a.2)) [19] ⟨HS.out.c 1 2 (v := .slice (some ⟨v, 0, none⟩) N N) rfl rfl, (HC.out _ (HS.out.at (i := 2) rfl)).1, (HC.out _ (HS.out.at (i := 2) rfl)).2.1, HS.out.c 0 0 (v := .int .i64 a.1) rfl rfl, HS.out.c 0 1 (v := .int .i64 a.2) rfl rfl⟩ (fun hHeld => ?_)
  repeat (first | ((with_reducible refine gate_p ?_); refine rp rfl rfl ?_) | ((with_reducible refine gate_t ?_); refine rt rfl rfl hHeld ?_))
  refine run_e rfl (fun K hK => ?_)
  refine gc Try.func135 (HP.out _) rfl rfl ?_
  rintro e_ w1 ⟨x, y, hxy, rfl, hb⟩
  refine ⟨_, rfl, ?_⟩
  replace HS := sB HS hb
  clear hb
  refine ge hK ⟨HS.out.c 1 2 (v := .slice (some ⟨v, 0, none⟩) N N) rfl rfl, (HC.out _ (HS.out.at (i := 2) rfl)).1, (HC.out _ (HS.out.at (i := 2) rfl)).2.1, HS.out.c 0 0 (v := .int .i64 a.1) rfl rfl, HS.out.c 0 1 (v := .int .i64 a.2) rfl rfl⟩ (fun hHeld => ?_)
  clear hK K
  repeat (first | ((with_reducible refine gate_p ?_); refine rp rfl rfl ?_) | ((with_reducible refine gate_t ?_); refine rt rfl rfl hHeld ?_))
  refine run_e rfl (fun K hK => ?_)
  refine gc Try.func128 (implCheckO g v d n N bad o x y hxy _ (HS.out.at (i := 1) rfl)) rfl rfl ?_
  rintro e_ w1 ⟨rfl, hs⟩
  refine ⟨_, rfl, ?_⟩
  replace HS : Aside0 (Mod _ _ _ [_, _, _]) := sM1 HS 1 [0, 2] rfl hs
  clear hs
  refine ge hK ⟨HS.out.c 0 2 (v := .slice (some ⟨v, 0, none⟩) N N) rfl rfl, (HC.out _ (HS.out.at (i := 2) rfl)).1, (HC.out _ (HS.out.at (i := 2) rfl)).2.1, HS.out.c 1 0 (v := .int .i64 a.1) rfl rfl, HS.out.c 1 1 (v := .int .i64 a.2) rfl rfl⟩ (fun hHeld => ?_)
  clear hK K
  repeat (first | ((with_reducible refine gate_p ?_); refine rp rfl rfl ?_) | ((with_reducible refine gate_t ?_); refine rt rfl rfl hHeld ?_))
  refine run_d rfl (fun K hK => ?_)
  refine stp_put_tab (by rfl) rfl rfl HS 2 rfl s (by omega) HW.out hn HK.out (orZ o) rfl rfl (by kernel_rfl) ?_
  clear HS
  intro w1 HS
  simp only [List.set_cons_zero, List.set_cons_succ] at HS
  refine goD hK rfl ?_
  clear hK K
  refine run_done ?_
  clear hHeld
  go_wp2
  replace HS : Aside0 (Mod _ _ _ [_, _]) := sX HS [0, 2]
  refine bodyPost_end (results_none rfl _ _ _) rfl ?_
  exact ⟨rfl, HS.out⟩
set_option maxHeartbeats 4000000 in
theorem implUnit (g v d n N : Nat) (bad : Bool) (w : World) (hl : lev d n = true) (ht : (tS g v d n N bad).I w) : Calls Try.prog 80 #[.pointer (some ⟨g, 0, none⟩)] w fun e w' =>
    ∃ g' v', e = .returned (.pointer (some ⟨g', 0, none⟩)) ∧ Sep w w' [tS g' v' d n (nW d n) false, tV v' d n (upd (fun _ => (0, 1)) ⟨#[]⟩ (1, 1))] := by
  obtain ⟨hd1, hd3, hn1, hn5⟩ := lev_bd hl
  have HT := Aside0.mk ht
  have HL := Aside0.mk hl
  have HS := Aside0.mk (Sep.refl w)
  have hlt : num d ⟨#[]⟩ < nW d n := num_lt' (by rfl) (Nat.zero_le _)
  have hk0 : num d ⟨#[]⟩ = 0 := rfl
  clear ht hl
  obtain ⟨M, hM⟩ : ∃ M, M = nW d n := ⟨_, rfl⟩
  have HM := Aside0.mk hM
  rw [← hM, hk0] at hlt
  have CL' := fun g v W h => hM ▸ implLike g v d n N bad W HL.out h
  have HCL := Aside0.mk CL'
  rw [← hM]
  clear hM hk0 CL'
  have hq1 : (0 : Int) < M := by omega
  go_enter Try.func80, Try.ntmps80
  go_wp2_with (first | (go_at_call 114; refine (HCL.out _ _ _ (HS.out.oldI HT.out)).mono ?_; rintro e_ w1 ⟨g', v', rfl, hs⟩; replace HS := sN2 HS hs; clear hs))
  replace HS := sD HS
  refine ps (.p 0 (.p 1 (.p 2 (.t 3 (.e 4 (.p 5 (.d 6 .done))))))) (fun w' => w'.cell? ⟨g', 2, none⟩ = some (.slice (some ⟨v', 0, none⟩) M M)) [6] (HS.out.c 0 2 (v := .slice (some ⟨v', 0, none⟩) M M) rfl rfl) (fun hHeld => ?_)
  repeat (first | ((with_reducible refine gate_p ?_); refine rp rfl rfl ?_) | ((with_reducible refine gate_t ?_); refine rt rfl rfl hHeld ?_))
  refine run_e rfl (fun K hK => ?_)
  refine gc Try.func86 (implWhole 1 _) rfl rfl ?_
  rintro e_ w1 ⟨rfl, hb⟩
  refine ⟨_, rfl, ?_⟩
  replace HS := sB HS hb
  clear hb
  refine ge hK (HS.out.c 0 2 (v := .slice (some ⟨v', 0, none⟩) M M) rfl rfl) (fun hHeld => ?_)
  clear hK K
  repeat (first | ((with_reducible refine gate_p ?_); refine rp rfl rfl ?_) | ((with_reducible refine gate_t ?_); refine rt rfl rfl hHeld ?_))
  refine run_d rfl (fun K hK => ?_)
  refine stp_put_tab (by rfl) rfl rfl HS 1 (k := 0) rfl ⟨#[]⟩ (by omega) (by rfl) (Nat.zero_le _) rfl (1, 1) rfl rfl (by kernel_rfl) ?_
  clear HS
  intro w1 HS
  simp only [List.set_cons_zero, List.set_cons_succ] at HS
  refine goD hK rfl ?_
  clear hK K
  refine run_done ?_
  clear hHeld
  go_wp2
  go_ret
  exact ⟨g', v', rfl, HS.out⟩
end Go.Proofs.Ytibjkjhpfmmjoaa.H


namespace Go.Proofs.Ytibjkjhpfmmjoaa.M
def tabK (d n : Nat) (f : ByteArray → Fr) (k : Nat) : Ts := ((allW d n).take k).filterMap fun w => if (f w).1 = 0 then none else some (w, f w)
theorem tabK_all (d n : Nat) (f : ByteArray → Fr) : tabK d n f (allW d n).length = tabT d n f := by unfold tabK tabT; rw [List.take_length]
theorem tabK_succ (d n : Nat) (f : ByteArray → Fr) {k : Nat} {s : ByteArray} (hs : (allW d n)[k]? = some s) : tabK d n f (k + 1) = tabK d n f k ++ (if (f s).1 = 0 then [] else [(s, f s)]) := by
  unfold tabK
  rw [List.take_add_one, hs, List.filterMap_append]
  congr 1
  show List.filterMap _ [s] = _
  by_cases h : (f s).1 = 0
  · simp [h]
  · simp [h]
theorem tabK_le (d n : Nat) (f : ByteArray → Fr) (k : Nat) : (tabK d n f k).length ≤ (allW d n).length := by
  unfold tabK
  exact Nat.le_trans (List.length_filterMap_le _ _) (by rw [List.length_take]; exact Nat.min_le_right _ _)
end Go.Proofs.Ytibjkjhpfmmjoaa.M
namespace Go.Proofs.Ytibjkjhpfmmjoaa.H
open Go.RowKit Go.Proofs.YtibjkjhpfmmjoaaW.PrintWords Go.Proofs.YtibjkjhpfmmjoaaW.PrintLast Go.Proofs.YtibjkjhpfmmjoaaW.PrintMore Go.Proofs.Ytibjkjhpfmmjoaa.M
attribute [local go_sem] max2_int min2_int max_two min_two max_three min_three max_four min_four
set_option linter.unusedVariables false
set_option linter.unusedSimpArgs false
set_option maxRecDepth 100000
theorem nW_le {d n : Nat} (hl : lev d n = true) : nW d n ≤ 10000 := by
  obtain ⟨h1, h2, h3, h4⟩ := lev_bd hl
  show (allW d n).length ≤ 10000
  rw [allW_length]; exact ahead_le h2 (by omega)
theorem tab_ix {w : World} {v d n : Nat} {f : ByteArray → Fr} {s : ByteArray} {k : Nat} (h : (tV v d n f).I w) (hk : (allW d n)[k]? = some s) :
    w.cell? ⟨v, k * 2, none⟩ = some (.int .i64 (f s).1) ∧ w.cell? ⟨v, k * 2 + 1, none⟩ = some (.int .i64 (f s).2) := by
  obtain ⟨h1, h2⟩ := List.getElem?_eq_some_iff.1 hk
  have hl2 : k < (tabL d n f).length := by rw [tabL_length]; exact h1
  have he : (tabL d n f)[k] = f s := (List.getElem_map f).trans (by rw [h2])
  exact ⟨tv_cell h 0 hl2 (by omega) (by rw [he]; rfl), tv_cell h 1 hl2 (by omega) (by rw [he]; rfl)⟩
set_option maxHeartbeats 8000000 in
theorem implSeries (g v d n : Nat) (bad : Bool) (f : ByteArray → Fr) (w : World) (hl : lev d n = true) (ht : (tS g v d n (nW d n) bad).I w) (hv : (tV v d n f).I w) :
    Calls Try.prog 106 #[.pointer (some ⟨g, 0, none⟩)] w fun e w' => ∃ A c, e = .returned (.agg #[.int .i64 (d : Int), .int .i64 (n : Int), .slice A (tabT d n f).length c]) ∧ Sep w w' [rowT A c (tabT d n f)] := by
  obtain ⟨hd1, hd3, hn1, hn5⟩ := lev_bd hl
  have hNl := nW_le hl
  have HT := Aside0.mk ht
  have HV := Aside0.mk hv
  have HG := Aside0.mk (fun k (h : k < nW d n) => (⟨_, List.getElem?_eq_getElem h⟩ : ∃ s, (allW d n)[k]? = some s))
  clear ht hv hl
  have HA := Aside0.mk (fun W => implAllWords d n W hd3 hn5)
  have HK := Aside0.mk (fun k => tabK_le d n f k)
  have HKA := Aside0.mk (tabK_all d n f)
  have HW := Aside0.mk (fun (A : Option Addr) (W : World) (k : Nat) (h : Kd.string.C W A (allW d n).length (allW d n)) (hk : k < nW d n) => str_at h k hk)
  obtain ⟨N, hN⟩ : ∃ N, N = nW d n := ⟨_, rfl⟩
  rw [← hN] at HT HG hNl HW
  rw [show (allW d n).length = N from hN.symm] at HK HA HW HKA
  obtain ⟨l, hl⟩ : ∃ l, l = allW d n := ⟨_, rfl⟩
  have HL := Aside0.mk hl
  unfold rowS at HA
  rw [← hl] at HA HW
  have HLN := Aside0.mk (show l.length = N by rw [hl, hN])
  rw [HLN.out] at HA
  clear hN hl
  have HS := Aside0.mk ((Sep.refl w).nil (d := KT) (hE := rfl) (e := 38))
  go_enter Try.func106, Try.ntmps106
  go_wp2_with (first | ((with_reducible refine gate_dst (N := 2) rfl ?_); refine bxL 26 #[(.int .i64 0), (.int .i64 0), (.slice none 0 0)] HS ?_; clear HS; intro g_r w1 hg_r HS))
  replace HS := sD HS
  refine ps (.p 0 (.p 1 (.p 2 (.p 4 (.p 5 (.p 6 (.t 3 (.t 7 (.p 8 (.e 9 (.d 10 .done))))))))))) (fun w' => w'.cell? ⟨g, 0, none⟩ = some (.int .i64 (d : Int)) ∧ w'.cell? ⟨g, 1, none⟩ = some (.int .i64 (n : Int))) [10] ⟨bx_c (HS.out.oldI HT.out) 0 (v := .int .i64 (d : Int)) rfl, bx_c (HS.out.oldI HT.out) 1 (v := .int .i64 (n : Int)) rfl⟩ (fun hHeld => ?_)
  repeat (first | ((with_reducible refine gate_p ?_); refine rp rfl rfl ?_) | ((with_reducible refine gate_t ?_); refine rt rfl rfl hHeld ?_))
  refine run_e rfl (fun K hK => ?_)
  refine bx1 26 #[(.int .i64 0), (.int .i64 0), (.slice none 0 0)] HS ?_
  clear HS
  intro g_x w1 hg_x HS
  refine ge hK ⟨bx_c (HS.out.oldI HT.out) 0 (v := .int .i64 (d : Int)) rfl, bx_c (HS.out.oldI HT.out) 1 (v := .int .i64 (n : Int)) rfl⟩ (fun hHeld => ?_)
  clear hK K
  refine run_d rfl (fun K hK => ?_)
  refine st1 HS 0 0 #[(.int .i64 (d : Int)), (.int .i64 (n : Int)), (.slice none 0 0)] rfl rfl rfl rfl rfl ?_
  clear HS
  intro w1 HS
  refine goD hK rfl ?_
  clear hK K
  refine run_done ?_
  clear hHeld
  go_wp2
  replace HS := sD HS
  refine ps (.p 0 (.p 1 (.p 2 (.p 4 (.p 5 (.p 6 (.p 10 (.t 3 (.t 7 (.d 8 (.p 9 .done))))))))))) (fun w' => w'.cell? ⟨g, 0, none⟩ = some (.int .i64 (d : Int)) ∧ w'.cell? ⟨g, 1, none⟩ = some (.int .i64 (n : Int))) [8] ⟨bx_c (HS.out.oldI HT.out) 0 (v := .int .i64 (d : Int)) rfl, bx_c (HS.out.oldI HT.out) 1 (v := .int .i64 (n : Int)) rfl⟩ (fun hHeld => ?_)
  repeat (first | ((with_reducible refine gate_p ?_); refine rp rfl rfl ?_) | ((with_reducible refine gate_t ?_); refine rt rfl rfl hHeld ?_))
  refine run_d rfl (fun K hK => ?_)
  refine gc Try.func115 (HA.out _) rfl rfl ?_
  rintro e_ w1 ⟨B, b, rfl, hs⟩
  refine ⟨_, rfl, ?_⟩
  replace HS := sN1 HS hs
  clear hs
  refine gd hK ?_
  clear hK K
  repeat (first | ((with_reducible refine gate_p ?_); refine rp rfl rfl ?_) | ((with_reducible refine gate_t ?_); refine rt rfl rfl hHeld ?_))
  refine run_done ?_
  clear hHeld
  go_wp2
  go_loopw [25] (fun q w' => ∃ (i : Nat) (A : Option Addr) (c : Nat) (y : Ts), i ≤ N ∧ q = .int .i64 (i : Int) ∧ Aside0 (y = tabK d n f i) ∧ Aside0 (Mod w w' No [rw' Kd.string rfl 9 (.slice B N b) l, bx g_x 26 #[.int .i64 (d : Int), .int .i64 (n : Int), .slice A y.length c], bx g_r 26 #[(.int .i64 0), (.int .i64 0), (.slice none 0 0)], rowT A c y])) (fun q _ => N - (intOf q).toNat)
  case atStart => exact ⟨0, none, 0, [], by omega, rfl, ⟨rfl⟩, HS⟩
  case round =>
    clear HS
    obtain ⟨i, A, c, y, hi, rfl, HY, HS⟩ := hrel
    by_cases hlt : i < N
    · have hyl : y.length ≤ 10000 := by rw [HY.out]; exact Nat.le_trans (HK.out i) hNl
      obtain ⟨s, hs⟩ := HG.out i hlt
      obtain ⟨ad, ea, h0_⟩ := HW.out B _ i (by have := HS.out.reads 0 rfl; rwa [HLN.out] at this) hlt
      cases ea
      have hs' : l.getD i ByteArray.empty = s := by rw [List.getD_eq_getElem?_getD, HL.out, hs]; rfl
      rw [hs'] at h0_
      have HE := Aside0.mk hs
      have H0 := Aside0.mk h0_
      clear hs hs' h0_
      by_cases hz : (f s).1 = 0
      · have HZ := Aside0.mk hz
        have hb : ((f s).1 != 0) = false := by rw [hz]; rfl
        clear hz
        have f1_ := H0.out
        have f2_ := bx_c (HS.out.oldI HT.out) 2 (v := .slice (some ⟨v, 0, none⟩) N N) rfl
        have f3_ := (tab_ix (HS.out.oldI HV.out) HE.out).1
        go_wp2
        go_roundw
        case rel => exact ⟨i + 1, A, c, y, by omega, by go_num, ⟨by rw [HY.out, tabK_succ d n f HE.out, if_pos HZ.out, List.append_nil]⟩, HS⟩
        case measure => simp [intOf]; omega
      · have HZ := Aside0.mk hz
        have hb : ((f s).1 != 0) = true := by simpa using hz
        clear hz
        have f1_ := H0.out
        have f2_ := bx_c (HS.out.oldI HT.out) 2 (v := .slice (some ⟨v, 0, none⟩) N N) rfl
        have f3_ := (tab_ix (HS.out.oldI HV.out) HE.out).1
        go_wp2
        clear f1_ f2_ f3_
        replace HS := sD HS
        refine ps (.p 0 (.p 2 (.p 3 (.p 4 (.p 5 (.p 7 (.t 1 (.t 6 (.p 8 (.t 9 (.p 10 (.e 11 (.d 12 (.p 13 (.d 14 .done))))))))))))))) (fun w' => w'.cell? ⟨g_x, 2, none⟩ = some (.slice A y.length c) ∧ w'.cell? ⟨g, 2, none⟩ = some (.slice (some ⟨v, 0, none⟩) N N) ∧ w'.cell? ⟨v, i * 2, none⟩ = some (.int .i64 (f s).1) ∧ w'.cell? ⟨v, i * 2 + 1, none⟩ = some (.int .i64 (f s).2)) [12, 14] ⟨HS.out.c 1 2 (v := .slice A y.length c) rfl rfl, bx_c (HS.out.oldI HT.out) 2 (v := .slice (some ⟨v, 0, none⟩) N N) rfl, (tab_ix (HS.out.oldI HV.out) HE.out).1, (tab_ix (HS.out.oldI HV.out) HE.out).2⟩ (fun hHeld => ?_)
        repeat (first | ((with_reducible refine gate_p ?_); refine rp rfl rfl ?_) | ((with_reducible refine gate_t ?_); refine rt rfl rfl hHeld ?_))
        refine run_e rfl (fun K hK => ?_)
        refine stp_lit (KT) rfl 38 (by rfl) HS (xs := [((s, f s) : Tm)]) (inner := [.string s, .int .i64 (f s).1, .int .i64 (f s).2]) (by first | (go_simp; done) | (go_simp; rfl)) (fun W base ok => Reps.snoc (Reps.none _ _) (KT_M (s, f s) W base ok) rfl) (by simp) ?_
        clear HS
        intro A_z c_z w1 HS
        refine ge hK ⟨HS.out.c 2 2 (v := .slice A y.length c) rfl rfl, bx_c (HS.out.oldI HT.out) 2 (v := .slice (some ⟨v, 0, none⟩) N N) rfl, (tab_ix (HS.out.oldI HV.out) HE.out).1, (tab_ix (HS.out.oldI HV.out) HE.out).2⟩ (fun hHeld => ?_)
        clear hK K
        refine run_d rfl (fun K hK => ?_)
        refine stp_rows KT rfl (fun _ _ _ _ _ h => h) (by rfl) HS 4 rfl (.tmp 40) (.tmp 50) 24 (.agg #[(.string ⟨#[]⟩), (.int .i64 0), (.int .i64 0)]) 32 rfl Try.underlying24 infoTerm (by kernel_rfl) [(s, f s)] rfl rfl (HS.out.reads 0 rfl) (by show (y.length + 1) * 32 ≤ _; omega) ?_
        clear HS
        intro A_y' c_y' y' w1 Ny' HS
        simp only [List.set_cons_zero, List.set_cons_succ] at HS
        refine gd hK ?_
        clear hK K
        repeat (first | ((with_reducible refine gate_p ?_); refine rp rfl rfl ?_) | ((with_reducible refine gate_t ?_); refine rt rfl rfl hHeld ?_))
        refine run_d rfl (fun K hK => ?_)
        refine st1 HS 2 2 #[.int .i64 (d : Int), .int .i64 (n : Int), (.slice A_y' y'.length c_y')] rfl rfl rfl rfl rfl ?_
        clear HS
        intro w1 HS
        refine goD hK rfl ?_
        clear hK K
        refine run_done ?_
        clear hHeld
        go_wp2
        replace HS : Aside0 (Mod _ _ _ [_, _, _, _]) := sX HS [1, 2, 3, 4]
        go_roundw
        case rel => exact ⟨i + 1, A_y', c_y', y', by omega, by go_num, ⟨by rw [Ny'.out, HY.out, tabK_succ d n f HE.out, if_neg HZ.out]⟩, HS⟩
        case measure => simp [intOf]; omega
    · obtain rfl : i = N := by omega
      have f1_ := HS.out.c 1 0 (v := .int .i64 (d : Int)) rfl rfl
      have f2_ := HS.out.c 1 1 (v := .int .i64 (n : Int)) rfl rfl
      have f3_ := HS.out.c 1 2 (v := .slice A y.length c) rfl rfl
      go_wp2_with (first | ((with_reducible refine gate_store (t := 26) (p := 2) rfl ?_); refine stL HS 2 0 #[.int .i64 (d : Int), .int .i64 (n : Int), .slice A y.length c] rfl rfl rfl rfl rfl ?_; clear HS f1_ f2_ f3_; intro w1 HS))
      refine bodyPost_ret (results_cell_row rfl _ _ g_r 26 #[.int .i64 (d : Int), .int .i64 (n : Int), .slice A y.length c] (0, 0) _ rfl (HS.out.at (i := 2) rfl) Try.underlying26 rfl (by kernel_rfl)) rfl ?_
      obtain rfl := HY.out.trans HKA.out
      replace HS : Aside0 (Mod _ _ _ [_]) := sX HS [3]
      exact ⟨A, c, rfl, HS.out⟩
end Go.Proofs.Ytibjkjhpfmmjoaa.H
namespace Go.Proofs.Ytibjkjhpfmmjoaa.H
open Go.RowKit Go.Proofs.YtibjkjhpfmmjoaaW.PrintWords Go.Proofs.YtibjkjhpfmmjoaaW.PrintLast Go.Proofs.YtibjkjhpfmmjoaaW.PrintMore Go.Proofs.Ytibjkjhpfmmjoaa.M
attribute [local go_sem] max2_int min2_int max_two min_two max_three min_three max_four min_four
set_option linter.unusedVariables false
set_option linter.unusedSimpArgs false
set_option maxRecDepth 100000
theorem results_cell_tmp_row {P : Program} {fn : Func} {p u : Tmp} {ty : TypeId} (h : fn.results = #[.cell p ty, .tmp u]) (tmps : Array Value) (w : World) (g : Nat) (t : TypeId) (cs : Array Value) (fr : Nat × Nat) (d : TypeDesc)
    (hp : tmps.getD p undef = .pointer (some ⟨g, 0, none⟩)) (hg : w.heap[g]? = some (.cells cs t fr))
    (hu : P.underlying ty = some d) (hd : (match d with | .struct _ | .array _ _ => true | _ => false) = true) (hi : (P.info? ty).map (·.size) = some cs.size) :
    (results fn tmps).run P w = .ok (.tuple #[.agg cs, tmps.getD u undef]) w := by
  have hp' : tmps[p]?.getD undef = .pointer (some ⟨g, 0, none⟩) := by simpa using hp
  simp [results, h, hp', asAddr, Sem.run_bind, run_loadVar_row w g t ty cs fr d hg hu hd hi]
def RetS (w : World) (r : Rs) (e : Ending) (w' : World) : Prop := ∃ A c, e = .returned (.tuple #[.agg #[.int .i64 r.1, .int .i64 r.2.1, .slice A r.2.2.1.length c], .int .i64 r.2.2.2]) ∧ Sep w w' [rowT A c r.2.2.1]
set_option maxHeartbeats 4000000 in
theorem implTold (g v d n : Nat) (bad : Bool) (f : ByteArray → Fr) (w : World) (hl : lev d n = true) (ht : (tS g v d n (nW d n) bad).I w) (hv : (tV v d n f).I w) :
    Calls Try.prog 69 #[.pointer (some ⟨g, 0, none⟩)] w (RetS w (toldR d n (f, bad))) := by
  have HT := Aside0.mk ht
  have HV := Aside0.mk hv
  have HL := Aside0.mk hl
  have HS := Aside0.mk (Sep.refl w)
  have CS := fun W h1 h2 => implSeries g v d n bad f W HL.out h1 h2
  have HC := Aside0.mk CS
  obtain ⟨N, hN⟩ : ∃ N, N = nW d n := ⟨_, rfl⟩
  rw [← hN] at HC HT
  clear ht hv hl hN CS
  cases bad with
  | true =>
    go_enter Try.func69, Try.ntmps69
    go_wp2_with (first | ((with_reducible refine gate_dst (N := 2) rfl ?_); refine bxL 26 #[(.int .i64 0), (.int .i64 0), (.slice none 0 0)] HS ?_; clear HS; intro g_r w1 hg_r HS; have f1_ := bx_c (HS.out.oldI HT.out) 3 (v := .bool true) rfl) | ((with_reducible refine gate_store (t := 26) (p := 2) rfl ?_); refine stL HS 0 0 #[(.int .i64 0), (.int .i64 0), (.slice none 0 0)] rfl rfl rfl rfl rfl ?_; clear HS f1_; intro w1 HS))
    refine bodyPost_ret (results_cell_tmp_row rfl _ _ g_r 26 #[(.int .i64 0), (.int .i64 0), (.slice none 0 0)] (0, 0) _ rfl (HS.out.at (i := 0) rfl) Try.underlying26 rfl (by kernel_rfl)) rfl ?_
    have n_ := Aside0.mk (HS.out.nil (d := KT) (hE := rfl) (e := 38))
    exact ⟨none, 0, rfl, n_.out.sel [0] (by decide)⟩
  | false =>
    go_enter Try.func69, Try.ntmps69
    go_wp2_with (first | ((with_reducible refine gate_dst (N := 2) rfl ?_); refine bxL 26 #[(.int .i64 0), (.int .i64 0), (.slice none 0 0)] HS ?_; clear HS; intro g_r w1 hg_r HS; have f1_ := bx_c (HS.out.oldI HT.out) 3 (v := .bool false) rfl) | (go_at_call 106; refine (HC.out _ (HS.out.oldI HT.out) (HS.out.oldI HV.out)).mono ?_; rintro e_ w1 ⟨A, c, rfl, hs⟩; replace HS := sN1 HS hs; clear hs f1_) | ((with_reducible refine gate_store (t := 26) (p := 2) rfl ?_); refine stL HS 1 0 #[.int .i64 (d : Int), .int .i64 (n : Int), .slice A (tabT d n f).length c] rfl rfl rfl rfl rfl ?_; clear HS; intro w1 HS))
    refine bodyPost_ret (results_cell_tmp_row rfl _ _ g_r 26 #[.int .i64 (d : Int), .int .i64 (n : Int), .slice A (tabT d n f).length c] (0, 0) _ rfl (HS.out.at (i := 1) rfl) Try.underlying26 rfl (by kernel_rfl)) rfl ?_
    replace HS : Aside0 (Mod _ _ _ [_]) := sX HS [0]
    exact ⟨A, c, rfl, HS.out⟩
set_option maxHeartbeats 8000000 in
theorem implOpen (d n : Nat) (A : Option Addr) (c : Nat) (l : Ts) (w : World) (hl : lev d n = true) (hr : KT.C w A l.length l) (hts : isTs d n l = true) :
    Calls Try.prog 64 #[.agg #[.int .i64 (d : Int), .int .i64 (n : Int), .slice A l.length c]] w fun e w' => ∃ g v, e = .returned (.pointer (some ⟨g, 0, none⟩)) ∧ Sep w w' [tS g v d n (nW d n) false, tV v d n (co l)] := by
  obtain ⟨hd1, hd3, hn1, hn5⟩ := lev_bd hl
  have hll : l.length ≤ 10000 := Nat.le_trans (ts_length_le (by omega) hts) (ahead_le hd3 (by omega))
  have HR := Aside0.mk hr
  have HX := Aside0.mk hts
  have HL := Aside0.mk hl
  have HS := Aside0.mk (Sep.refl w)
  have HN := Aside0.mk (fun W => implNew d n HL.out W)
  obtain ⟨N, hN⟩ : ∃ N, N = nW d n := ⟨_, rfl⟩
  rw [← hN] at HN
  rw [← hN]
  have HNW := Aside0.mk hN
  clear hr hts hl hN
  go_enter Try.func64, Try.ntmps64
  go_wp2_with (first | ((with_reducible refine gate_dst (N := 1) rfl ?_); refine bxL 26 #[.int .i64 (d : Int), .int .i64 (n : Int), .slice A l.length c] HS ?_; clear HS; intro g_x w1 hg_x HS; have f1_ := HS.out.c 0 0 (v := .int .i64 (d : Int)) rfl rfl; have f2_ := HS.out.c 0 1 (v := .int .i64 (n : Int)) rfl rfl) | (go_at_call 79; refine (HN.out _).mono ?_; rintro e_ w1 ⟨g', v', rfl, hs⟩; replace HS := sN2 HS hs; clear hs f1_ f2_; have f1_ := HS.out.c 2 2 (v := .slice A l.length c) rfl rfl))
  rw [show (fun _ => ((0, 1) : Fr)) = co (l.take 0) from funext fun u => by rw [List.take_zero]; rfl] at HS
  go_loopw [14] (fun q w' => ∃ k : Nat, k ≤ l.length ∧ q = .int .i64 (k : Int) ∧ Aside0 (Mod w w' No [bx g' 92 #[.int .i64 (d : Int), .int .i64 (n : Int), .slice (some ⟨v', 0, none⟩) N N, .bool false], tV v' d n (co (l.take k)), bx g_x 26 #[.int .i64 (d : Int), .int .i64 (n : Int), .slice A l.length c]])) (fun q _ => l.length - (intOf q).toNat)
  case atStart => exact ⟨0, by omega, rfl, HS⟩
  case round =>
    clear HS
    obtain ⟨k, hk, rfl, HS⟩ := hrel
    by_cases hlt : k < l.length
    · skip
      obtain ⟨ad_A, ea_, h0_, h1_, h2_⟩ := tm_at HR.out k (hlt)
      cases ea_
      obtain ⟨t_, ht_⟩ : ∃ t_, t_ = l.getD k zT := ⟨_, rfl⟩
      rw [← ht_] at h0_ h1_ h2_
      have Et_ := Aside0.mk ht_; have H0t_ := Aside0.mk h0_; have H1t_ := Aside0.mk h1_; have H2t_ := Aside0.mk h2_
      clear ht_ h0_ h1_ h2_
      have htm : isTm d n t_ = true := (isTs_iff.1 HX.out).1 _ (by rw [Et_.out, getD_lt l zT k hlt]; exact List.getElem_mem hlt)
      obtain ⟨hz1, hz2, hz3, hz4⟩ := isTm_fr htm
      have HZ3 := Aside0.mk hz3
      have hs5 : t_.1.size ≤ 5 := by omega
      have hq2 : num d t_.1 < nW d n := num_lt' hz3 hz4
      rw [← HNW.out] at hq2
      obtain ⟨j, hj⟩ : ∃ j, num d t_.1 = j := ⟨_, rfl⟩
      have CN := fun W => (hj ▸ implNumber d t_.1 W hd1 hd3 HZ3.out hs5 : Calls Try.prog 97 #[.int .i64 (d : Int), .string t_.1] W fun e w' => e = .returned (.int .i64 ((j : Nat) : Int)) ∧ Below W.heap.size W w')
      rw [hj] at hq2
      have HCN := Aside0.mk CN
      have HJ := Aside0.mk hj
      have HTK := Aside0.mk (show upd (co (l.take k)) t_.1 t_.2 = co (l.take (k + 1)) by rw [co_take_succ HX.out hlt, Et_.out])
      clear CN hj htm hz1 hz2 hz3
      have hq0 : (0 : Int) ≤ j := by omega
      have hq1 : (j : Int) < N := by omega
      clear hq2
      have f1_ := HS.out.old H0t_.out
      have f2_ := HS.out.old H1t_.out
      have f3_ := HS.out.old H2t_.out
      go_wp2_with (first | ((with_reducible refine gate_dst (N := 5) rfl ?_); refine bxL 38 #[(.string ⟨#[]⟩), (.int .i64 0), (.int .i64 0)] HS ?_; clear HS f1_ f2_ f3_; intro g_y w1 hg_y HS) | ((with_reducible refine gate_store (t := 38) (p := 5) rfl ?_); refine stL HS 0 0 #[.string t_.1, .int .i64 t_.2.1, .int .i64 t_.2.2] rfl rfl rfl rfl rfl ?_; clear HS; intro w1 HS))
      replace HS := sD HS
      refine ps (.p 0 (.p 1 (.p 2 (.p 4 (.p 5 (.p 6 (.p 8 (.p 11 (.t 3 (.t 7 (.t 9 (.t 12 (.e 10 (.p 13 (.d 14 .done))))))))))))))) (fun w' => w'.cell? ⟨g', 2, none⟩ = some (.slice (some ⟨v', 0, none⟩) N N) ∧ w'.cell? ⟨g', 0, none⟩ = some (.int .i64 (d : Int)) ∧ w'.cell? ⟨g_y, 0, none⟩ = some (.string t_.1) ∧ w'.cell? ⟨g_y, 1, none⟩ = some (.int .i64 t_.2.1) ∧ w'.cell? ⟨g_y, 2, none⟩ = some (.int .i64 t_.2.2)) [14] ⟨HS.out.c 1 2 (v := .slice (some ⟨v', 0, none⟩) N N) rfl rfl, HS.out.c 1 0 (v := .int .i64 (d : Int)) rfl rfl, HS.out.c 0 0 (v := .string t_.1) rfl rfl, HS.out.c 0 1 (v := .int .i64 t_.2.1) rfl rfl, HS.out.c 0 2 (v := .int .i64 t_.2.2) rfl rfl⟩ (fun hHeld => ?_)
      repeat (first | ((with_reducible refine gate_p ?_); refine rp rfl rfl ?_) | ((with_reducible refine gate_t ?_); refine rt rfl rfl hHeld ?_))
      refine run_e rfl (fun K hK => ?_)
      refine gc Try.func97 (HCN.out _) rfl rfl ?_
      rintro e_ w1 ⟨rfl, hb⟩
      refine ⟨_, rfl, ?_⟩
      replace HS := sB HS hb
      clear hb
      refine ge hK ⟨HS.out.c 1 2 (v := .slice (some ⟨v', 0, none⟩) N N) rfl rfl, HS.out.c 1 0 (v := .int .i64 (d : Int)) rfl rfl, HS.out.c 0 0 (v := .string t_.1) rfl rfl, HS.out.c 0 1 (v := .int .i64 t_.2.1) rfl rfl, HS.out.c 0 2 (v := .int .i64 t_.2.2) rfl rfl⟩ (fun hHeld => ?_)
      clear hK K
      repeat (first | ((with_reducible refine gate_p ?_); refine rp rfl rfl ?_) | ((with_reducible refine gate_t ?_); refine rt rfl rfl hHeld ?_))
      refine run_d rfl (fun K hK => ?_)
      refine stp_put_tab (by rfl) rfl rfl HS 2 rfl t_.1 (by omega) HZ3.out hz4 HJ.out t_.2 rfl rfl (by kernel_rfl) ?_
      clear HS
      intro w1 HS
      simp only [List.set_cons_zero, List.set_cons_succ] at HS
      rw [HTK.out] at HS
      refine goD hK rfl ?_
      clear hK K
      refine run_done ?_
      clear hHeld
      go_wp2
      replace HS : Aside0 (Mod _ _ _ [_, _, _]) := sX HS [1, 2, 3]
      go_roundw
      case rel => exact ⟨k + 1, by omega, by go_num, HS⟩
      case measure => simp [intOf]; omega
    · obtain rfl : k = l.length := by omega
      go_wp2
      go_ret
      have n_ := HS.out.sel [0, 1] (by decide)
      simp only [List.filterMap_cons, List.filterMap_nil, List.getElem?_cons_zero, List.getElem?_cons_succ, List.take_length] at n_
      exact ⟨g', v', rfl, n_⟩
end Go.Proofs.Ytibjkjhpfmmjoaa.H


