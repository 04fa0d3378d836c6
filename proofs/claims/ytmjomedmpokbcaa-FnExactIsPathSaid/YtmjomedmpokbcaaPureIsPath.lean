/- IsPath of the program returns what the reference's IsPath returns: the plain law. Conditions: the lengths fit a machine's int. -/
import Derived.Test.YtmjomedmpokbcaaE0
import Derived.Test.YtmjomedmpokbcaaE1
import Derived.Test.YtmjomedmpokbcaaE2
import Derived.Test.YtmjomedmpokbcaaE3
namespace Go.Proofs.Ytmjomedmpokbcaa.Pure
open Go.RowKit Go.Proofs.Ytmjomedmpokbcaa.E Go.Proofs.YtmjomedmpokbcaaW.PrintWords Go.Proofs.YtmjomedmpokbcaaW.PrintLast
set_option linter.unusedVariables false
set_option linter.unusedSimpArgs false
set_option maxRecDepth 100000
namespace IP
theorem wrap_id {x : Int} (h0 : -9223372036854775808 ≤ x) (h1 : x ≤ 9223372036854775807) : wrap64 x = x := by
  unfold wrap64; omega
theorem spec_in (a b c : Int) : spec_l01In.f a b c = some (M.inR a b c) := by
  unfold spec_l01In.f M.inR
  by_cases h : b ≤ a
  · rw [if_pos h]; simp [h]
  · rw [if_neg h]; simp [h]
theorem rd_nat (l : List Int) (i : Nat) : rd l (i : Int) = l.getD i 0 := by unfold rd; rw [Int.toNat_natCast]
theorem rdL_nat (l : List (List Int)) (i : Nat) : rd_L1 l (i : Int) = l.getD i [] := by unfold rd_L1; rw [Int.toNat_natCast]
theorem ext_getD {α : Type} (d : α) {l m : List α} (h : l.length = m.length) (h2 : ∀ j, j < l.length → l.getD j d = m.getD j d) : l = m := by
  apply List.ext_getElem h
  intro j h3 h4
  have := h2 j h3
  rwa [List.getD_eq_getElem?_getD, List.getD_eq_getElem?_getD, List.getElem?_eq_getElem h3, List.getElem?_eq_getElem h4] at this
theorem getD_set {α : Type} (d : α) (l : List α) (a j : Nat) (x : α) (ha : a < l.length) : (l.set a x).getD j d = if j = a then x else l.getD j d := by
  rw [List.getD_eq_getElem?_getD, List.getElem?_set, List.getD_eq_getElem?_getD]
  by_cases h : a = j
  · subst h; simp [ha]
  · rw [if_neg h, if_neg (fun e => h e.symm)]
theorem copy_l (l : List Int) (hl : l.length ≤ 1048576) (m : Nat) : ∀ (i k : Nat) (x : List Int), l.length - i ≤ m → i ≤ l.length → m < k → x.length = l.length → (∀ j, j < i → x.getD j 0 = l.getD j 0) → laws_toInt64S.l0 k l x (i : Int) = some l := by
  induction m with
  | zero =>
    intro i k x h1 h2 hk hx hj
    obtain ⟨k, rfl⟩ : ∃ m, k = m + 1 := ⟨k - 1, by omega⟩
    simp only [laws_toInt64S.l0]; rw [if_neg (by omega)]
    rw [ext_getD 0 hx (fun j hj' => hj j (by omega))]
  | succ m ih =>
    intro i k x h1 h2 hk hx hj
    obtain ⟨k, rfl⟩ : ∃ m, k = m + 1 := ⟨k - 1, by omega⟩
    by_cases hi : i < l.length
    · simp only [laws_toInt64S.l0]
      rw [if_pos (by omega), if_pos (by omega), if_pos (by omega), wrap_id (by omega) (by omega), Int.toNat_natCast, rd_nat]
      refine ih (i + 1) k _ (by omega) (by omega) (by omega) (by rw [List.length_set, hx]) (fun j hj' => ?_)
      rw [getD_set 0 _ _ _ _ (by omega)]
      split
      · rename_i e; rw [e]
      · exact hj j (by omega)
    · simp only [laws_toInt64S.l0]; rw [if_neg (by omega)]
      rw [ext_getD 0 hx (fun j hj' => hj j (by omega))]
theorem copy_s (l : List Int) (hl : l.length ≤ 1048576) (k : Nat) (hk : 1048576 < k) : laws_toInt64S.f k l = some l := by
  unfold laws_toInt64S.f
  rw [if_pos (by omega), if_pos (by omega)]
  exact copy_l l hl l.length 0 k _ (by omega) (by omega) (by omega) (by simp) (fun j hj => by omega)
theorem copyL_l (l : List (List Int)) (hl : l.length ≤ 1048576) (hs : ∀ j, j < l.length → (l.getD j []).length ≤ 1048576) (m : Nat) : ∀ (i k : Nat) (x : List (List Int)), l.length - i ≤ m → i ≤ l.length → m + 1048577 < k → x.length = l.length → (∀ j, j < i → x.getD j [] = l.getD j []) → laws_toInt64SS.l0 k l x (i : Int) = some l := by
  induction m with
  | zero =>
    intro i k x h1 h2 hk hx hj
    obtain ⟨k, rfl⟩ : ∃ m, k = m + 1 := ⟨k - 1, by omega⟩
    simp only [laws_toInt64SS.l0]; rw [if_neg (by omega)]
    rw [ext_getD [] hx (fun j hj' => hj j (by omega))]
  | succ m ih =>
    intro i k x h1 h2 hk hx hj
    obtain ⟨k, rfl⟩ : ∃ m, k = m + 1 := ⟨k - 1, by omega⟩
    by_cases hi : i < l.length
    · simp only [laws_toInt64SS.l0]
      rw [if_pos (by omega), if_pos (by omega), rdL_nat, copy_s _ (hs i hi) k (by omega)]
      simp only [Option.bind_some]
      rw [if_pos (by omega), wrap_id (by omega) (by omega), Int.toNat_natCast]
      refine ih (i + 1) k _ (by omega) (by omega) (by omega) (by rw [List.length_set, hx]) (fun j hj' => ?_)
      rw [getD_set [] _ _ _ _ (by omega)]
      split
      · rename_i e; rw [e]
      · exact hj j (by omega)
    · simp only [laws_toInt64SS.l0]; rw [if_neg (by omega)]
      rw [ext_getD [] hx (fun j hj' => hj j (by omega))]
theorem copy_ss (l : List (List Int)) (hl : l.length ≤ 1048576) (hs : ∀ j, j < l.length → (l.getD j []).length ≤ 1048576) (k : Nat) (hk : 3000000 < k) : laws_toInt64SS.f k l = some l := by
  unfold laws_toInt64SS.f
  rw [if_pos (by omega), if_pos (by omega)]
  exact copyL_l l hl hs l.length 0 k _ (by omega) (by omega) (by omega) (by simp) (fun j hj => by omega)
theorem eq_l (l : List Int) (hl : l.length ≤ 1048576) (m : Nat) : ∀ (i k : Nat), l.length - i ≤ m → i ≤ l.length → m < k → laws_eqInt64S.l0 k l l (i : Int) = some true := by
  induction m with
  | zero =>
    intro i k h1 h2 hk
    obtain ⟨k, rfl⟩ : ∃ m, k = m + 1 := ⟨k - 1, by omega⟩
    simp only [laws_eqInt64S.l0]; rw [if_neg (by omega)]
  | succ m ih =>
    intro i k h1 h2 hk
    obtain ⟨k, rfl⟩ : ∃ m, k = m + 1 := ⟨k - 1, by omega⟩
    by_cases hi : i < l.length
    · simp only [laws_eqInt64S.l0]
      rw [if_pos (by omega), if_pos (by omega), if_pos (show (i : Int) < (l.length : Int) by omega), if_pos trivial, wrap_id (by omega) (by omega)]
      exact ih (i + 1) k (by omega) (by omega) (by omega)
    · simp only [laws_eqInt64S.l0]; rw [if_neg (by omega)]
theorem eq_s (l : List Int) (hl : l.length ≤ 1048576) (k : Nat) (hk : 1048576 < k) : laws_eqInt64S.f k l l = some true := by
  unfold laws_eqInt64S.f
  rw [if_pos rfl]
  exact eq_l l hl l.length 0 k (by omega) (by omega) (by omega)
theorem eqL_l (l : List (List Int)) (hl : l.length ≤ 1048576) (hs : ∀ j, j < l.length → (l.getD j []).length ≤ 1048576) (m : Nat) : ∀ (i k : Nat), l.length - i ≤ m → i ≤ l.length → m + 1048577 < k → laws_eqInt64SS.l0 k l l (i : Int) = some true := by
  induction m with
  | zero =>
    intro i k h1 h2 hk
    obtain ⟨k, rfl⟩ : ∃ m, k = m + 1 := ⟨k - 1, by omega⟩
    simp only [laws_eqInt64SS.l0]; rw [if_neg (by omega)]
  | succ m ih =>
    intro i k h1 h2 hk
    obtain ⟨k, rfl⟩ : ∃ m, k = m + 1 := ⟨k - 1, by omega⟩
    by_cases hi : i < l.length
    · simp only [laws_eqInt64SS.l0]
      rw [if_pos (by omega), if_pos (by omega), if_pos (show (i : Int) < (l.length : Int) by omega), rdL_nat, eq_s _ (hs i hi) k (by omega)]
      simp only [Option.bind_some, if_true]
      rw [wrap_id (by omega) (by omega)]
      exact ih (i + 1) k (by omega) (by omega) (by omega)
    · simp only [laws_eqInt64SS.l0]; rw [if_neg (by omega)]
theorem eq_ss (l : List (List Int)) (hl : l.length ≤ 1048576) (hs : ∀ j, j < l.length → (l.getD j []).length ≤ 1048576) (k : Nat) (hk : 3000000 < k) : laws_eqInt64SS.f k l l = some true := by
  unfold laws_eqInt64SS.f
  rw [if_pos rfl]
  exact eqL_l l hl hs l.length 0 k (by omega) (by omega) (by omega)
theorem sz_l (l : List (List Int)) (hl : l.length ≤ 1048576) (hs : ∀ j, j < l.length → (l.getD j []).length ≤ 9223372036854775807) (m : Nat) : ∀ (i k : Nat) (a : Int), l.length - i ≤ m → i ≤ l.length → m < k → 0 ≤ a → a ≤ 1048576 →
    ∃ r, laws_szInt64SS.l0 k l a (i : Int) = some r ∧ (0 ≤ r → ∀ j, i ≤ j → j < l.length → (l.getD j []).length ≤ 1048576) := by
  induction m with
  | zero =>
    intro i k a h1 h2 hk ha hb
    obtain ⟨k, rfl⟩ : ∃ m, k = m + 1 := ⟨k - 1, by omega⟩
    exact ⟨a, by simp only [laws_szInt64SS.l0]; rw [if_neg (by omega)], fun _ j _ _ => by omega⟩
  | succ m ih =>
    intro i k a h1 h2 hk ha hb
    obtain ⟨k, rfl⟩ : ∃ m, k = m + 1 := ⟨k - 1, by omega⟩
    by_cases hi : i < l.length
    · have hi2 := hs i hi
      have hw : wrap64 (a - ((l.getD i []).length : Int)) = a - ((l.getD i []).length : Int) := wrap_id (by omega) (by omega)
      simp only [laws_szInt64SS.l0]
      rw [if_pos (by omega), if_pos (by omega), rdL_nat]
      unfold laws_szInt64S.f
      rw [hw]
      by_cases c : a - ((l.getD i []).length : Int) < 0
      · rw [if_pos c]
        exact ⟨-1, by simp, fun h => by omega⟩
      · rw [if_neg c]
        simp only [Option.bind_some]
        rw [if_neg c, wrap_id (by omega) (by omega)]
        obtain ⟨r, e, h⟩ := ih (i + 1) k (a - ((l.getD i []).length : Int)) (by omega) (by omega) (by omega) (by omega) (by omega)
        refine ⟨r, e, fun hr j hj hj2 => ?_⟩
        rcases Nat.lt_or_ge i j with c2 | c2
        · exact h hr j (by omega) hj2
        · obtain rfl : j = i := by omega
          omega
    · exact ⟨a, by simp only [laws_szInt64SS.l0]; rw [if_neg (by omega)], fun _ j _ _ => by omega⟩
theorem sz (l : List (List Int)) (hl : l.length ≤ 9223372036854775807) (hs : ∀ j, j < l.length → (l.getD j []).length ≤ 9223372036854775807) (k : Nat) (hk : 3000000 < k) :
    ∃ r, laws_szInt64SS.f k l 1048576 = some r ∧ (0 ≤ r → l.length ≤ 1048576 ∧ ∀ j, j < l.length → (l.getD j []).length ≤ 1048576) := by
  unfold laws_szInt64SS.f
  rw [wrap_id (by omega) (by omega)]
  by_cases c : (1048576 : Int) - (l.length : Int) < 0
  · rw [if_pos c]; exact ⟨-1, rfl, fun h => by omega⟩
  · rw [if_neg c]
    obtain ⟨r, e, h⟩ := sz_l l (by omega) hs l.length 0 k (1048576 - (l.length : Int)) (by omega) (by omega) (by omega) (by omega) (by omega)
    exact ⟨r, e, fun hr => ⟨by omega, fun j hj => h hr j (by omega) hj⟩⟩
/-- The steps from number i on. -/
def restOk (a : Int) (l : List (List Int)) (i : Nat) : Bool := (l.drop i).all (M.isStep a)
theorem restOk_at {a : Int} {l : List (List Int)} {i : Nat} (h : i < l.length) : restOk a l i = (M.isStep a (l.getD i []) && restOk a l (i + 1)) := by
  unfold restOk
  rw [List.drop_eq_getElem_cons h, List.all_cons, List.getD_eq_getElem?_getD, List.getElem?_eq_getElem h]; rfl
def upOk (l : List Int) (i : Nat) : Bool := (l.drop i).all fun x => M.inR x (-100) 100
theorem upOk_at {l : List Int} {i : Nat} (h : i < l.length) : upOk l i = (M.inR (l.getD i 0) (-100) 100 && upOk l (i + 1)) := by
  unfold upOk
  rw [List.drop_eq_getElem_cons h, List.all_cons, List.getD_eq_getElem?_getD, List.getElem?_eq_getElem h]; rfl
theorem is1 (a : Int) (l : List (List Int)) (i : Nat) (hi : i < l.length) (hl : l.length ≤ 1048576) (hs : (l.getD i []).length ≤ 1048576) (m : Nat) : ∀ (j k : Nat), (l.getD i []).length - j ≤ m → j ≤ (l.getD i []).length → m < k →
    ∃ k', k - m - 1 ≤ k' ∧ spec_l04Is.l1 k a l (i : Int) (j : Int) = if upOk (l.getD i []) j = true then spec_l04Is.l0 k' a l ((i + 1 : Nat) : Int) else some false := by
  induction m with
  | zero =>
    intro j k h1 h2 hk
    obtain ⟨k, rfl⟩ : ∃ m, k = m + 1 := ⟨k - 1, by omega⟩
    refine ⟨k, by omega, ?_⟩
    have e : upOk (l.getD i []) j = true := by unfold upOk; rw [List.drop_of_length_le (by omega)]; rfl
    rw [if_pos e]
    simp only [spec_l04Is.l1]
    rw [if_pos (by omega), if_pos (by omega), rdL_nat, if_neg (by omega), wrap_id (by omega) (by omega)]
    rfl
  | succ m ih =>
    intro j k h1 h2 hk
    obtain ⟨k, rfl⟩ : ∃ m, k = m + 1 := ⟨k - 1, by omega⟩
    by_cases hj : j < (l.getD i []).length
    · obtain ⟨k', hk', e⟩ := ih (j + 1) k (by omega) (by omega) (by omega)
      refine ⟨k', by omega, ?_⟩
      simp only [spec_l04Is.l1]
      rw [if_pos (by omega), if_pos (by omega), rdL_nat, if_pos (by omega), if_pos (by omega), rd_nat, spec_in, upOk_at hj]
      simp only [Option.bind_some]
      cases hin : M.inR ((l.getD i []).getD j 0) (-100) 100 with
      | false => simp
      | true =>
        rw [if_pos rfl, wrap_id (by omega) (by omega), Bool.true_and]
        exact e
    · refine ⟨k, by omega, ?_⟩
      have e : upOk (l.getD i []) j = true := by unfold upOk; rw [List.drop_of_length_le (by omega)]; rfl
      rw [if_pos e]
      simp only [spec_l04Is.l1]
      rw [if_pos (by omega), if_pos (by omega), rdL_nat, if_neg (by omega), wrap_id (by omega) (by omega)]
      rfl
theorem is0 (a : Int) (l : List (List Int)) (hl : l.length ≤ 12) (B : Nat) (hB : B ≤ 1048576) (hs : ∀ j, j < l.length → (l.getD j []).length ≤ B) (m : Nat) : ∀ (i k : Nat), l.length - i ≤ m → i ≤ l.length → m * (B + 4) < k → spec_l04Is.l0 k a l (i : Int) = some (restOk a l i) := by
  induction m with
  | zero =>
    intro i k h1 h2 hk
    obtain ⟨k, rfl⟩ : ∃ m, k = m + 1 := ⟨k - 1, by omega⟩
    simp only [spec_l04Is.l0]; rw [if_neg (by omega)]
    unfold restOk; rw [List.drop_of_length_le (by omega)]; rfl
  | succ m ih =>
    intro i k h1 h2 hk
    obtain ⟨k, rfl⟩ : ∃ m, k = m + 1 := ⟨k - 1, by omega⟩
    by_cases hi : i < l.length
    · simp only [spec_l04Is.l0]
      rw [if_pos (by omega), if_pos (by omega), rdL_nat, restOk_at hi]
      by_cases hc : ((l.getD i []).length : Int) = a
      · rw [if_pos hc]
        obtain ⟨k', hk', e⟩ := is1 a l i hi (by omega) (Nat.le_trans (hs i hi) hB) (l.getD i []).length 0 k (by omega) (by omega) (by have h7 := hs i hi; rw [Nat.succ_mul] at hk; generalize m * (B + 4) = X at hk; generalize (l.getD i []).length = L at *; omega)
        have hk2 : m * (B + 4) < k' := by
          have h7 := hs i hi
          rw [Nat.succ_mul] at hk
          clear e hc hs ih hl hB h1
          generalize m * (B + 4) = X at *
          generalize (l.getD i []).length = L at *
          omega
        rw [show ((0 : Nat) : Int) = 0 from rfl] at e
        rw [e]
        have hst : M.isStep a (l.getD i []) = upOk (l.getD i []) 0 := by
          unfold M.isStep upOk M.allUp; rw [hc, beq_self_eq_true, Bool.true_and, List.drop_zero]
        rw [hst]
        cases upOk (l.getD i []) 0 with
        | false => rfl
        | true =>
          rw [if_pos rfl, Bool.true_and]
          exact ih (i + 1) k' (by omega) (by omega) hk2
      · rw [if_neg hc]
        have hst : M.isStep a (l.getD i []) = false := by unfold M.isStep; rw [beq_false_of_ne hc]; rfl
        rw [hst]; rfl
    · simp only [spec_l04Is.l0]; rw [if_neg (by omega)]
      unfold restOk; rw [List.drop_of_length_le (by omega)]; rfl
theorem is_spec (a : Int) (l : List (List Int)) (hl : l.length ≤ 1048576) (hs : ∀ j, j < l.length → (l.getD j []).length ≤ 1048576) (k : Nat) (hk : 20000000 < k) : spec_IsPath.f k a l = some (M.isPath a l) := by
  obtain ⟨k, rfl⟩ : ∃ m, k = m + 1 := ⟨k - 1, by omega⟩
  unfold spec_IsPath.f spec_l04Is.f M.isPath
  rw [spec_in]
  simp only [Option.bind_some]
  cases M.inR a 1 3 with
  | false => simp [spec_l04Is.j0]
  | true =>
    rw [if_pos rfl, Bool.true_and]
    by_cases h12 : l.length ≤ 12
    · have e : decide ((l.length : Int) > 12) = false := by simp; omega
      rw [e]
      simp only [spec_l04Is.j0]
      have h0 := is0 a l h12 1048576 (Nat.le_refl _) hs l.length 0 k (by omega) (Nat.zero_le _) (Nat.lt_of_le_of_lt (Nat.mul_le_mul_right _ h12) (by omega))
      rw [show ((0 : Nat) : Int) = 0 from rfl] at h0
      rw [if_neg (by simp), h0]
      simp [h12, restOk]
    · have e : decide ((l.length : Int) > 12) = true := by simp; omega
      rw [e]
      simp only [spec_l04Is.j0]
      simp [h12]
end IP
theorem isPath_law (a : Int) (l : List (List Int)) (hl : l.length ≤ 9223372036854775807) (hs : ∀ j, j < l.length → (l.getD j []).length ≤ 9223372036854775807) : laws_FnExactIsPath.f 20000001 a l = some true := by
  unfold laws_FnExactIsPath.f
  obtain ⟨r, e, h⟩ := IP.sz l hl hs 20000001 (by omega)
  rw [e]
  simp only [Option.bind_some]
  by_cases hr : r < 0
  · rw [if_pos hr]
  · rw [if_neg hr]
    obtain ⟨h1, h2⟩ := h (by omega)
    rw [IP.copy_ss l h1 h2 20000001 (by omega)]
    simp only [Option.bind_some]
    rw [IP.is_spec a l h1 h2 20000001 (by omega)]
    simp only [Option.bind_some]
    unfold impl_IsPath.f
    simp only [Option.bind_some, bne_self_eq_false, Bool.false_eq_true, if_false]
    rw [IP.eq_ss l h1 h2 20000001 (by omega)]
    simp
end Go.Proofs.Ytmjomedmpokbcaa.Pure
