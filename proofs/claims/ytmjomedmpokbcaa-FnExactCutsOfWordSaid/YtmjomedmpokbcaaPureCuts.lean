/- CutsOfWord of the program returns what the reference's CutsOfWord returns: the plain law. Conditions: none. -/
import Derived.Test.YtmjomedmpokbcaaPureWd
import Derived.Test.YtmjomedmpokbcaaF0
import Derived.Test.YtmjomedmpokbcaaF1
import Derived.Test.YtmjomedmpokbcaaF2
import Derived.Test.YtmjomedmpokbcaaF3
import Derived.Test.YtmjomedmpokbcaaF4
namespace Go.Proofs.Ytmjomedmpokbcaa.Pure
open Go.RowKit Go.Proofs.Ytmjomedmpokbcaa.F Go.Proofs.YtmjomedmpokbcaaW.PrintWords Go.Proofs.YtmjomedmpokbcaaW.PrintLast
set_option linter.unusedVariables false
set_option linter.unusedSimpArgs false
set_option maxRecDepth 100000
namespace CW
def cut (s : ByteArray) (i : Nat) : ByteArray × ByteArray := (s.extract 0 i, s.extract i s.size)
def row (p : ByteArray × ByteArray) : List ByteArray := [p.1, p.2]
/-- The cuts from i on, m of them. -/
def cuts (s : ByteArray) (i m : Nat) : List (List ByteArray) := ((List.range m).map fun j => cut s (i + j)).map row
theorem cuts_zero (s : ByteArray) (i : Nat) : cuts s i 0 = [] := rfl
theorem cuts_succ (s : ByteArray) (i m : Nat) : cuts s i (m + 1) = [s.extract 0 i, s.extract i s.size] :: cuts s (i + 1) m := by
  unfold cuts
  rw [List.range_succ_eq_map]
  simp only [List.map_cons, List.map_map]
  refine congrArg (List.cons _) (List.map_congr_left fun j _ => ?_)
  show row (cut s (i + (j + 1))) = row (cut s (i + 1 + j))
  rw [Nat.add_assoc, Nat.add_comm 1 j]
theorem spec_l (s : ByteArray) (hs : s.size ≤ 8) (m : Nat) : ∀ (i k : Nat) (acc : List (List ByteArray)), i + m = s.size + 1 → m < k → acc.length ≤ 100 - m → spec_CutsOfWord.l0 k s acc (i : Int) = some (acc ++ cuts s i m, 0) := by
  induction m with
  | zero =>
    intro i k acc h1 hk hl
    obtain ⟨k, rfl⟩ : ∃ m, k = m + 1 := ⟨k - 1, by omega⟩
    simp only [spec_CutsOfWord.l0]; rw [if_neg (by omega), cuts_zero, List.append_nil]
  | succ m ih =>
    intro i k acc h1 hk hl
    obtain ⟨k, rfl⟩ : ∃ m, k = m + 1 := ⟨k - 1, by omega⟩
    simp only [spec_CutsOfWord.l0]
    rw [if_pos (by omega), if_pos (by omega), if_pos (by omega), NW.wrap_id (by omega) (by omega), Int.toNat_natCast]
    have := ih (i + 1) k (acc ++ [[s.extract 0 i, s.extract i s.size]]) (by omega) (by omega) (by rw [List.length_append, List.length_singleton]; omega)
    rw [cuts_succ, ← List.append_cons] at *
    exact this
theorem impl_l (s : ByteArray) (hs : s.size ≤ 8) (m : Nat) : ∀ (i k : Nat) (acc : List (List ByteArray)), i + m = s.size + 1 → m < k → acc.length ≤ 100 - m → impl_CutsOfWord.l0 k s acc ((s.size : Int) + 1) (i : Int) = some (acc ++ cuts s i m, 0) := by
  induction m with
  | zero =>
    intro i k acc h1 hk hl
    obtain ⟨k, rfl⟩ : ∃ m, k = m + 1 := ⟨k - 1, by omega⟩
    simp only [impl_CutsOfWord.l0]; rw [if_neg (by omega), cuts_zero, List.append_nil]
  | succ m ih =>
    intro i k acc h1 hk hl
    obtain ⟨k, rfl⟩ : ∃ m, k = m + 1 := ⟨k - 1, by omega⟩
    simp only [impl_CutsOfWord.l0]
    rw [if_pos (by omega), if_pos (by omega), if_pos (by omega), if_pos (by omega), NW.wrap_id (by omega) (by omega), Int.toNat_natCast]
    have := ih (i + 1) k (acc ++ [[s.extract 0 i, s.extract i s.size]]) (by omega) (by omega) (by rw [List.length_append, List.length_singleton]; omega)
    rw [cuts_succ, ← List.append_cons] at *
    exact this
theorem rdL_nat (l : List (List ByteArray)) (i : Nat) : rd_L1 l (i : Int) = l.getD i [] := by unfold rd_L1; rw [Int.toNat_natCast]
theorem eq_l (l : List ByteArray) (hl : l.length ≤ 100) (m : Nat) : ∀ (i k : Nat), l.length - i ≤ m → i ≤ l.length → m < k → laws_eqStringS.l0 k l l (i : Int) = some true := by
  induction m with
  | zero =>
    intro i k h1 h2 hk
    obtain ⟨k, rfl⟩ : ∃ m, k = m + 1 := ⟨k - 1, by omega⟩
    simp only [laws_eqStringS.l0]; rw [if_neg (by omega)]
  | succ m ih =>
    intro i k h1 h2 hk
    obtain ⟨k, rfl⟩ : ∃ m, k = m + 1 := ⟨k - 1, by omega⟩
    by_cases hi : i < l.length
    · simp only [laws_eqStringS.l0]
      rw [if_pos (by omega), if_pos (by omega), if_pos (show (i : Int) < (l.length : Int) by omega), if_pos trivial, NW.wrap_id (by omega) (by omega)]
      exact ih (i + 1) k (by omega) (by omega) (by omega)
    · simp only [laws_eqStringS.l0]; rw [if_neg (by omega)]
theorem eq_s (l : List ByteArray) (hl : l.length ≤ 100) (k : Nat) (hk : 100 < k) : laws_eqStringS.f k l l = some true := by
  unfold laws_eqStringS.f
  rw [if_pos rfl]
  exact eq_l l hl l.length 0 k (by omega) (by omega) (by omega)
theorem eqL_l (l : List (List ByteArray)) (hl : l.length ≤ 100) (hs : ∀ j, j < l.length → (l.getD j []).length ≤ 100) (m : Nat) : ∀ (i k : Nat), l.length - i ≤ m → i ≤ l.length → m + 101 < k → laws_eqStringSS.l0 k l l (i : Int) = some true := by
  induction m with
  | zero =>
    intro i k h1 h2 hk
    obtain ⟨k, rfl⟩ : ∃ m, k = m + 1 := ⟨k - 1, by omega⟩
    simp only [laws_eqStringSS.l0]; rw [if_neg (by omega)]
  | succ m ih =>
    intro i k h1 h2 hk
    obtain ⟨k, rfl⟩ : ∃ m, k = m + 1 := ⟨k - 1, by omega⟩
    by_cases hi : i < l.length
    · simp only [laws_eqStringSS.l0]
      rw [if_pos (by omega), if_pos (by omega), if_pos (show (i : Int) < (l.length : Int) by omega), rdL_nat, eq_s _ (hs i hi) k (by omega)]
      simp only [Option.bind_some, if_true]
      rw [NW.wrap_id (by omega) (by omega)]
      exact ih (i + 1) k (by omega) (by omega) (by omega)
    · simp only [laws_eqStringSS.l0]; rw [if_neg (by omega)]
theorem eq_rows (ps : List (ByteArray × ByteArray)) (h : ps.length ≤ 9) (k : Nat) (hk : 300 ≤ k) : laws_eqStringSS.f k (ps.map row) (ps.map row) = some true := by
  unfold laws_eqStringSS.f
  rw [if_pos rfl]
  refine eqL_l _ (by rw [List.length_map]; omega) (fun j hj => ?_) (ps.map row).length 0 k (by omega) (by omega) (by rw [List.length_map]; omega)
  rw [List.getD_eq_getElem?_getD, List.getElem?_eq_getElem hj, List.getElem_map]
  show (row _).length ≤ 100
  simp [row]
def mtx (k : Nat) : ByteArray := if k < 10 then ⟨#[109, (48 + k).toUInt8]⟩ else ⟨#[109, 49, (38 + k).toUInt8]⟩
def markL (n : Nat) : List (List ByteArray) := (List.range n).map fun j => [mtx (2 * j + 1), mtx (2 * j + 2)]
/-- What marking leaves of rows of two texts each: nothing of what they were. -/
theorem marks (ps : List (ByteArray × ByteArray)) (h : ps.length ≤ 9) : ∃ m L, laws_markStringSS.f 300 (ps.map row) 1 = some (m, L) ∧ laws_heldStringSS.f 300 L 1 = some m ∧ 0 ≤ m ∧ L.length = ps.length := by
  match ps, h with
  | [], _ => exact ⟨1, markL 0, by kernel_rfl, by kernel_rfl, by decide, rfl⟩
  | [_], _ => exact ⟨3, markL 1, by kernel_rfl, by kernel_rfl, by decide, rfl⟩
  | [_, _], _ => exact ⟨5, markL 2, by kernel_rfl, by kernel_rfl, by decide, rfl⟩
  | [_, _, _], _ => exact ⟨7, markL 3, by kernel_rfl, by kernel_rfl, by decide, rfl⟩
  | [_, _, _, _], _ => exact ⟨9, markL 4, by kernel_rfl, by kernel_rfl, by decide, rfl⟩
  | [_, _, _, _, _], _ => exact ⟨11, markL 5, by kernel_rfl, by kernel_rfl, by decide, rfl⟩
  | [_, _, _, _, _, _], _ => exact ⟨13, markL 6, by kernel_rfl, by kernel_rfl, by decide, rfl⟩
  | [_, _, _, _, _, _, _], _ => exact ⟨15, markL 7, by kernel_rfl, by kernel_rfl, by decide, rfl⟩
  | [_, _, _, _, _, _, _, _], _ => exact ⟨17, markL 8, by kernel_rfl, by kernel_rfl, by decide, rfl⟩
  | [_, _, _, _, _, _, _, _, _], _ => exact ⟨19, markL 9, by kernel_rfl, by kernel_rfl, by decide, rfl⟩
  | _ :: _ :: _ :: _ :: _ :: _ :: _ :: _ :: _ :: _ :: _, h => exact absurd h (by simp)
/-- What both return. -/
theorem both (d : Int) (s : ByteArray) (hs : s.size ≤ 1048576) : ∃ ps : List (ByteArray × ByteArray), ∃ code : Int, ps.length ≤ 9 ∧ spec_CutsOfWord.f 1048600 d s = some (ps.map row, code) ∧ impl_CutsOfWord.f 1048600 d s = some (ps.map row, code) := by
  have no1 : ∀ k, spec_CutsOfWord.j0 (k + 1) s true = some (([] : List (ByteArray × ByteArray)).map row, 2) := fun k => by simp [spec_CutsOfWord.j0]
  have no2 : ∀ k, impl_CutsOfWord.j0 (k + 1) s true = some (([] : List (ByteArray × ByteArray)).map row, 2) := fun k => by simp [impl_CutsOfWord.j0]
  unfold spec_CutsOfWord.f impl_CutsOfWord.f
  simp only [NW.spec_in, NW.impl_let, Option.bind_some]
  by_cases hd : 1 ≤ d ∧ d ≤ 3
  · have hd' : decide (1 ≤ d ∧ d ≤ 3) = true := by simpa using hd
    simp only [hd', if_true]
    obtain ⟨b1, e1, g1⟩ := NW.spec_wd d hd s hs 1048600 (by omega)
    obtain ⟨c1, f1, h1⟩ := NW.impl_wd d hd s hs 8 1048600 (by omega)
    rw [← g1] at h1
    rw [e1, f1]
    simp only [Option.bind_some]
    by_cases p1 : b1 = true
    · rw [if_pos p1]
      by_cases q1 : s.size ≤ 8
      · have ec : c1 = true := h1.2 ⟨p1, by omega⟩
        have ed : decide ((s.size : Int) > 8) = false := by simp; omega
        refine ⟨(List.range (s.size + 1)).map fun j => cut s (0 + j), 0, by simp; omega, ?_, ?_⟩
        · rw [ed]
          have := spec_l s q1 (s.size + 1) 0 1048599 [] (by omega) (by omega) (by simp)
          simp only [spec_CutsOfWord.j0]
          rw [if_neg (by simp)]
          exact this
        · rw [ec]
          have := impl_l s q1 (s.size + 1) 0 1048599 [] (by omega) (by omega) (by simp)
          simp only [impl_CutsOfWord.j0, Bool.not_true]
          rw [if_neg (by simp), NW.wrap_id (by omega) (by omega)]
          exact this
      · have ec : c1 = false := by cases c1 with
          | false => rfl
          | true => have := (h1.1 rfl).2; omega
        have ed : decide ((s.size : Int) > 8) = true := by simp; omega
        exact ⟨[], 2, by simp, by rw [ed]; exact no1 _, by rw [ec]; exact no2 _⟩
    · have ec : c1 = false := by cases c1 with
        | false => rfl
        | true => exact absurd (h1.1 rfl).1 p1
      exact ⟨[], 2, by simp, by rw [if_neg p1]; exact no1 _, by rw [ec]; exact no2 _⟩
  · have hd' : decide (1 ≤ d ∧ d ≤ 3) = false := by simpa using hd
    simp only [hd', Bool.false_eq_true, if_false]
    exact ⟨[], 2, by simp, no1 _, no2 _⟩
end CW
end Go.Proofs.Ytmjomedmpokbcaa.Pure
