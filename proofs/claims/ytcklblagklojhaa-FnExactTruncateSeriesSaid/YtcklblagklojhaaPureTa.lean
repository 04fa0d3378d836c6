/- Series as arguments: what the law's helpers tell of them. Conditions: none. -/
import Derived.Test.YtcklblagklojhaaPureEv
import Derived.Test.YtcklblagklojhaaKMath
import Derived.Test.YtcklblagklojhaaT0
import Derived.Test.YtcklblagklojhaaT4
namespace Go.Proofs.Ytcklblagklojhaa.Pure
open Go.RowKit Go.Proofs.Ytcklblagklojhaa.T Go.Proofs.YtcklblagklojhaaW.PrintWords Go.Proofs.YtcklblagklojhaaW.PrintLast
set_option linter.unusedVariables false
set_option linter.unusedSimpArgs false
namespace TA
open TS
def cv (x : S136) : S77 := ⟨x.f0, ⟨x.f1.f0, x.f1.f1⟩⟩
def un (x : S77) : M.Tm := (x.f0, x.f1.f0, x.f1.f1)
def un' (x : S136) : M.Tm := (x.f0, x.f1.f0, x.f1.f1)
def mk (x : M.Tm) : S77 := ⟨x.1, ⟨x.2.1, x.2.2⟩⟩
theorem rd (l : List S136) (i : Nat) (h : i < l.length) : rd_T136 l (i : Int) = l[i] := by
  unfold rd_T136
  rw [Int.toNat_natCast, List.getD_eq_getElem?_getD, List.getElem?_eq_getElem h]; rfl
theorem to_l (l : List S136) (hl : l.length ≤ 1048576) (m : Nat) : ∀ (i k : Nat) (acc : List S77), i + m = l.length → acc.length = l.length → m < k → laws_toTermS.l0 k l acc (i : Int) = some (acc.take i ++ (l.drop i).map cv) := by
  induction m with
  | zero =>
    intro i k acc h1 h2 hk
    obtain ⟨k, rfl⟩ : ∃ m, k = m + 1 := ⟨k - 1, by omega⟩
    simp only [laws_toTermS.l0]
    rw [if_neg (by omega), List.drop_eq_nil_of_le (by omega), List.take_of_length_le (by omega), List.map_nil, List.append_nil]
  | succ m ih =>
    intro i k acc h1 h2 hk
    obtain ⟨k, rfl⟩ : ∃ m, k = m + 1 := ⟨k - 1, by omega⟩
    simp only [laws_toTermS.l0]
    rw [if_pos (by omega), if_pos (by omega), rd l i (by omega)]
    simp only [laws_toTerm.f, laws_toFraction.f, Option.bind_some]
    rw [if_pos (by omega), wrap_id (by omega) (by omega), Int.toNat_natCast]
    have := ih (i + 1) k (acc.set i (cv (l[i]'(by omega)))) (by omega) (by rw [List.length_set]; omega) (by omega)
    rw [take_set _ _ _ (by omega), List.append_assoc] at this
    rw [List.drop_eq_getElem_cons (by omega : i < l.length), List.map_cons]
    exact this
theorem to_s (a b : Int) (l : List S136) (hl : l.length ≤ 1048576) : TS.Ev (fun k => laws_toSeries.f k a b l) (a, b, l.map cv) := ⟨l.length + 1, fun k hk => by
  simp only [laws_toSeries.f, laws_toTermS.f]
  rw [if_pos (by omega), if_pos (by omega)]
  have := to_l l hl l.length 0 k (List.replicate l.length z77) (by omega) (by rw [List.length_replicate]) (by omega)
  rw [List.take_zero, List.drop_zero, List.nil_append] at this
  rw [Int.toNat_natCast, show (0 : Int) = ((0 : Nat) : Int) from rfl, this]; rfl⟩
theorem sz_l (l : List S136) (hl : l.length ≤ 1048576) (hw : ∀ t ∈ l, t.f0.size ≤ 9223372036854775807) (m : Nat) : ∀ (i k : Nat) (x : Int), i + m = l.length → 0 ≤ x → x ≤ 1048576 → m < k →
    ∃ v, laws_szTermS.l0 k l x (i : Int) = some v ∧ v ≤ x ∧ (¬ v < 0 → ∀ j, i ≤ j → (h : j < l.length) → l[j].f0.size ≤ 1048576) := by
  induction m with
  | zero =>
    intro i k x h1 h2 h3 hk
    obtain ⟨k, rfl⟩ : ∃ m, k = m + 1 := ⟨k - 1, by omega⟩
    refine ⟨x, ?_, Int.le_refl _, fun _ j a b => by omega⟩
    simp only [laws_szTermS.l0]; rw [if_neg (by omega)]
  | succ m ih =>
    intro i k x h1 h2 h3 hk
    obtain ⟨k, rfl⟩ : ∃ m, k = m + 1 := ⟨k - 1, by omega⟩
    have hi : i < l.length := by omega
    have hsz := hw _ (List.getElem_mem hi)
    simp only [laws_szTermS.l0]
    rw [if_pos (by omega), if_pos (by omega), rd l i hi]
    simp only [laws_szTerm.f]
    rw [wrap_id (x := x - (l[i].f0.size : Int)) (by omega) (by omega)]
    by_cases c : x - (l[i].f0.size : Int) < 0
    · refine ⟨-1, ?_, by omega, fun h => absurd (by omega) h⟩
      rw [if_pos c, Option.bind_some, if_pos (by omega)]
    · obtain ⟨v, e, hx, hv⟩ := ih (i + 1) k (x - (l[i].f0.size : Int)) (by omega) (by omega) (by omega) (by omega)
      refine ⟨v, ?_, by omega, fun h j a b => ?_⟩
      · rw [if_neg c, Option.bind_some, if_neg c, wrap_id (by omega) (by omega)]; exact e
      · rcases Nat.eq_or_lt_of_le a with rfl | a
        · omega
        · exact hv h j a b
theorem sz_s (a b : Int) (l : List S136) (hm : l.length ≤ 9223372036854775807) (hw : ∀ t ∈ l, t.f0.size ≤ 9223372036854775807) (x : Int) (hx0 : 0 ≤ x) (hx1 : x ≤ 1048576) :
    ∃ v, TS.Ev (fun k => laws_szSeries.f k a b l x) v ∧ v ≤ x ∧ (¬ v < 0 → l.length ≤ 1048576 ∧ M.bnd (l.map un') = true) := by
  by_cases c : x - (l.length : Int) < 0
  · refine ⟨-1, TS.Ev.at fun k => ?_, by omega, fun h => absurd (by omega) h⟩
    simp only [laws_szSeries.f, laws_szTermS.f]
    rw [wrap_id (by omega) (by omega), if_pos c, Option.bind_some, if_pos (by omega)]
  · obtain ⟨v, e, hx, hv⟩ := sz_l l (by omega) hw l.length 0 (l.length + 1) (x - (l.length : Int)) (by omega) (by omega) (by omega) (by omega)
    have e1 : laws_szSeries.f (l.length + 1) a b l x = some (if v < 0 then -1 else v) := by
      simp only [laws_szSeries.f, laws_szTermS.f]
      rw [wrap_id (by omega) (by omega), if_neg c, show laws_szTermS.l0 (l.length + 1) l (x - (l.length : Int)) 0 = some v from e, Option.bind_some]
      by_cases q : v < 0
      · rw [if_pos q]; simp [q]
      · rw [if_neg q]; simp [q]
    refine ⟨_, TS.Ev.of_mono (fun k => laws_szSeries.mono _ _ _ _ k) _ e1, by split <;> omega, fun h => ⟨by omega, M.bnd_iff.2 ⟨by rw [List.length_map]; omega, fun t ht => ?_⟩⟩⟩
    obtain ⟨u, hu, rfl⟩ := List.mem_map.1 ht
    obtain ⟨j, hj, rfl⟩ := List.getElem_of_mem hu
    refine hv (fun q => h ?_) j (by omega) hj
    rw [if_pos q]; omega
theorem un_cv (l : List S136) : (l.map cv).map un = l.map un' := by rw [List.map_map]; rfl
theorem un_mk (l : M.Ts) : (l.map mk).map un = l := by rw [List.map_map]; exact List.map_id _
end TA
end Go.Proofs.Ytcklblagklojhaa.Pure
