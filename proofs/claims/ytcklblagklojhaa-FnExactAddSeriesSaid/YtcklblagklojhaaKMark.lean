/- Marks: what the laws' own helpers write and look for. Conditions: the bounds that stand in each statement. -/
import Derived.Test.YtcklblagklojhaaKLaw
import Derived.Test.YtcklblagklojhaaKLeaf
namespace Go.Proofs.Ytcklblagklojhaa.M
def dig (q : Nat) : ByteArray := ⟨#[(48 + q).toUInt8]⟩
def mtA : Nat → Nat → ByteArray → ByteArray
  | 0, _, out => out
  | f + 1, k, out => if k = 0 then out else mtA f (k / 10) (dig (k % 10) ++ out)
theorem mtA_more : ∀ (f k : Nat) (out : ByteArray), k ≤ f → mtA f k out = mtA k k out
  | 0, k, out, h => by obtain rfl : k = 0 := by omega
                       rfl
  | f + 1, 0, out, h => by simp [mtA]
  | f + 1, k + 1, out, h => by
    rw [mtA, mtA, if_neg (by omega), if_neg (by omega), mtA_more f ((k + 1) / 10) _ (by omega), mtA_more k ((k + 1) / 10) _ (by omega)]
theorem mtA_next {k : Nat} (out : ByteArray) (h : 0 < k) : mtA k k out = mtA (k / 10) (k / 10) (dig (k % 10) ++ out) := by
  obtain ⟨j, rfl⟩ : ∃ j, k = j + 1 := ⟨k - 1, by omega⟩
  rw [mtA, if_neg (by omega), mtA_more j _ _ (by omega)]
/-- The mark's text. -/
def mt (k : Nat) : ByteArray := ⟨#[109]⟩ ++ mtA k k ⟨#[]⟩
end Go.Proofs.Ytcklblagklojhaa.M
namespace Go.Proofs.Ytcklblagklojhaa.H
open Go.RowKit Go.Proofs.YtcklblagklojhaaW.PrintWords Go.Proofs.YtcklblagklojhaaW.PrintLast Go.Proofs.YtcklblagklojhaaW.PrintMore Go.Proofs.Ytcklblagklojhaa.M
attribute [local go_sem] max2_int min2_int max_two min_two max_three min_three max_four min_four
set_option linter.unusedVariables false
set_option linter.unusedSimpArgs false
set_option maxRecDepth 100000
theorem u8_small (x : Int) (h0 : 0 ≤ x) (h1 : x < 256) : IntKind.u8.wrap x = x := IntWalk.u8_in x ⟨h0, by omega⟩
/-- A row of one byte turned into a text. -/
theorem byte_string (W : World) (x : Int) : (convert 73 9 (.slice (some ⟨W.heap.size, 0, none⟩) 1 1)).run Try.prog (W.alloc (.cells #[.int .u8 x] 5)) = .ok (.string (strOfNums [x])) (W.alloc (.cells #[.int .u8 x] 5)) := by
  have h := own_lit W 0 5 .u8 [x] (Nat.zero_le _) (by simp)
  exact own_string Try.underlying73 Try.underlying5 Try.underlying9 h
theorem dig_str (q : Nat) (h : q < 10) : strOfNums [48 + (q : Int)] = dig q := by
  match q, h with
  | 0, _ => rfl
  | 1, _ => rfl
  | 2, _ => rfl
  | 3, _ => rfl
  | 4, _ => rfl
  | 5, _ => rfl
  | 6, _ => rfl
  | 7, _ => rfl
  | 8, _ => rfl
  | 9, _ => rfl
  | n + 10, h => omega
set_option maxHeartbeats 4000000 in
theorem lawMarkText (k0 : Nat) (w : World) (h0 : 0 < k0) (h1 : k0 ≤ 100000000) : Calls Try.prog 177 #[.int .i64 (k0 : Int)] w fun e w' => e = .returned (.string (mt k0)) ∧ Below w.heap.size w w' := by
  have HS := Aside0.mk (Sep.refl w)
  have h2 : ¬ ((k0 : Int) ≤ 0) := by omega
  go_enter Try.func177, Try.ntmps177
  go_wp2
  clear h2
  go_loopw [0, 3] (fun x y w' => ∃ (k : Nat) (s : ByteArray), x = .int .i64 (k : Int) ∧ y = .string s ∧ k ≤ 100000000 ∧ s.size ≤ 20 ∧ Aside0 (k * 10 ^ s.size ≤ 100000000) ∧ Aside0 (mtA k k s = mtA k0 k0 ⟨#[]⟩) ∧ Aside0 (Mod w w' No [])) (fun x _ _ => (intOf x).toNat)
  case atStart => exact ⟨k0, ⟨#[]⟩, rfl, rfl, h1, by decide, ⟨by show k0 * 1 ≤ _; omega⟩, ⟨rfl⟩, HS⟩
  case round =>
    clear HS
    obtain ⟨k, s, rfl, rfl, hk, hs, HP, HM, HS⟩ := hrel
    by_cases hz : 0 < k
    · obtain ⟨q, hq⟩ : ∃ q, k % 10 = q := ⟨_, rfl⟩
      obtain ⟨k', hk'⟩ : ∃ k', k / 10 = k' := ⟨_, rfl⟩
      have hq9 : q < 10 := by omega
      have hkk : k' < k := by omega
      have HN := Aside0.mk (mtA_next s hz)
      rw [hq, hk'] at HN
      have hs9 : s.size ≤ 8 := by
        have := HP.out
        by_cases h : s.size ≤ 8
        · exact h
        · have h9 : 10 ^ 9 ≤ 10 ^ s.size := Nat.pow_le_pow_right (by omega) (by omega)
          have : 1 * 10 ^ 9 ≤ k * 10 ^ s.size := Nat.mul_le_mul hz h9
          omega
      have HP2 := Aside0.mk (show k' * 10 ^ (s.size + 1) ≤ 100000000 by
        have := HP.out
        rw [Nat.pow_succ, Nat.mul_comm (10 ^ s.size) 10, ← Nat.mul_assoc]
        exact Nat.le_trans (Nat.mul_le_mul_right _ (by omega)) this)
      have hqi : (k : Int) % 10 = (q : Int) := by omega
      have hqd : (k : Int) / 10 = (k' : Int) := by omega
      have hsz : (9223372036854775807 < (strOfNums [48 + (q : Int)]).size + s.size) = False := eq_false (Nat.not_lt.2 (by show 1 + s.size ≤ 9223372036854775807; omega))
      have HW := Aside0.mk (show IntKind.u8.wrap (48 + (q : Int)) = 48 + q from u8_small _ (by omega) (by omega))
      have hw := HW.out
      have hcv := byte_string wr (48 + (q : Int))
      go_wp2
      go_roundw
      case rel => exact ⟨k', dig q ++ s, rfl, by rw [dig_str q hq9], by omega, by rw [ByteArray.size_append]; show 1 + s.size ≤ 20; omega, ⟨by rw [ByteArray.size_append]; show k' * 10 ^ (1 + s.size) ≤ _; rw [Nat.add_comm]; exact HP2.out⟩, ⟨by rw [← HN.out]; exact HM.out⟩, ⟨HS.out.call (below_alloc (Below.refl _ _) _)⟩⟩
      case measure => simp [intOf]; omega
    · obtain rfl : k = 0 := by omega
      have HE := Aside0.mk (show s = mtA k0 k0 ⟨#[]⟩ from HM.out)
      have hsz : (9223372036854775807 < ByteArray.size ⟨#[109]⟩ + s.size) = False := eq_false (Nat.not_lt.2 (by show 1 + s.size ≤ 9223372036854775807; omega))
      go_wp2
      go_ret
      exact ⟨ret_str (by rw [HE.out]; rfl), HS.out.below⟩
/-- The i-th mark from k on. -/
def mkT (k i : Nat) : Tm := (mt (k + 3 * i), ((k + 3 * i + 1 : Nat) : Int), ((k + 3 * i + 2 : Nat) : Int))
def mkd (k n : Nat) : Ts := (List.range n).map (mkT k)
theorem mkd_length (k n : Nat) : (mkd k n).length = n := by simp [mkd]
theorem mkd_get {k n j : Nat} (h : j < n) : (mkd k n).getD j zT = mkT k j := by
  rw [List.getD_eq_getElem?_getD, mkd, List.getElem?_map, List.getElem?_range h]; rfl
set_option maxHeartbeats 8000000 in
theorem lawMarkTermS (A : Option Addr) (c : Nat) (l : Ts) (k : Nat) (w : World) (hR : (rw' KT rfl 77 (.slice A l.length c) l).I w) (hl : l.length ≤ 1048576) (hk0 : 0 < k) (hk1 : k ≤ 10000000) :
    Calls Try.prog 106 #[.slice A l.length c, .int .i64 (k : Int)] w fun e w' => e = .returned (.int .i64 ((k + 3 * l.length : Nat) : Int)) ∧ Mod w w' (rw' KT rfl 77 (.slice A l.length c) l).S [rw' KT rfl 77 (.slice A l.length c) (mkd k l.length)] := by
  have HS := Aside0.mk (Mod.own1 hR)
  clear hR
  by_cases hz : l.length = 0
  · obtain rfl : l = [] := List.eq_nil_of_length_eq_zero hz
    have HE := Aside0.mk (show mkd k ([] : Ts).length = [] from rfl)
    have hn : ¬ (0 < ([] : Ts).length) := by simp
    clear hz
    go_enter Try.func106, Try.ntmps106
    go_wp2
    go_loopw [1, 5] (fun x v w' => x = .int .i64 (k : Int) ∧ v = .int .i64 0 ∧ Aside0 (Mod w w' (rw' KT rfl 77 (.slice A ([] : Ts).length c) []).S [rw' KT rfl 77 (.slice A ([] : Ts).length c) []])) (fun _ v _ => 0)
    case atStart => exact ⟨rfl, rfl, HS⟩
    case round =>
      clear HS
      obtain ⟨rfl, rfl, HS⟩ := hrel
      go_wp2
      go_ret
      exact ⟨rfl, HS.out⟩
  · obtain ⟨g_o, sp, rfl, hI, hlen, hcm⟩ := R_tr (HS.out.rowAt 0 rfl) rfl (by omega)
    have n_ := Aside0.mk (HS.out.asBlock (i := 0) rfl hI)
    clear HS hI
    have HS := n_
    clear n_ hz
    simp only [List.set_cons_zero] at HS
    have HC := Aside0.mk hlen
    clear hlen
    go_enter Try.func106, Try.ntmps106
    go_wp2
    go_loopw [1, 5] (fun x v w' => ∃ (i m : Nat) (y : Ts), i ≤ l.length ∧ v = .int .i64 (i : Int) ∧ x = .int .i64 (m : Int) ∧ m = k + 3 * i ∧ y.length = l.length ∧ Aside0 (∀ j, j < i → y.getD j zT = mkT k j) ∧ Aside0 (Mod w w' (rw' KT rfl 77 (.slice (some ⟨g_o, 0, none⟩) l.length c) l).S [tr g_o 77 y sp])) (fun _ v _ => l.length - (intOf v).toNat)
    case atStart => exact ⟨0, k, l, by omega, rfl, rfl, rfl, rfl, ⟨fun j hj => by omega⟩, HS⟩
    case round =>
      clear HS
      obtain ⟨i, m, y, hi, rfl, rfl, hm, hy, HY, HS⟩ := hrel
      by_cases hlt : i < l.length
      · have hiy : i < y.length := by omega
        have hm1 : m ≤ 100000000 := by omega
        have hm0 : 0 < m := by omega
        have HM := Aside0.mk hm
        obtain ⟨t, ht⟩ : ∃ t, t = y.getD i zT := ⟨_, rfl⟩
        have ET := Aside0.mk ht
        obtain ⟨y1, hy1⟩ : ∃ z, z = y.set i (mt m, t.2.1, t.2.2) := ⟨_, rfl⟩
        have hl1 : i < y1.length := by rw [hy1, List.length_set]; exact hiy
        have E1 := Aside0.mk (show y1.getD i zT = (mt m, t.2.1, t.2.2) by rw [hy1, getD_set hiy, if_pos rfl])
        obtain ⟨y2, hy2⟩ : ∃ z, z = y1.set i (mt m, ((m + 1 : Nat) : Int), t.2.2) := ⟨_, rfl⟩
        have hl2 : i < y2.length := by rw [hy2, List.length_set]; exact hl1
        have E2 := Aside0.mk (show y2.getD i zT = (mt m, ((m + 1 : Nat) : Int), t.2.2) by rw [hy2, getD_set hl1, if_pos rfl])
        obtain ⟨y3, hy3⟩ : ∃ z, z = y2.set i (mt m, ((m + 1 : Nat) : Int), ((m + 2 : Nat) : Int)) := ⟨_, rfl⟩
        have hl3 : y3.length = l.length := by rw [hy3, List.length_set, hy2, List.length_set, hy1, List.length_set]; exact hy
        have Y1 := Aside0.mk hy1
        have Y2 := Aside0.mk hy2
        have Y3 := Aside0.mk hy3
        have HN := Aside0.mk (show ∀ j, j < i → y3.getD j zT = mkT k j from fun j hj => by rw [hy3, getD_set hl2, if_neg (by omega), hy2, getD_set hl1, if_neg (by omega), hy1, getD_set hiy, if_neg (by omega)]; exact HY.out j hj)
        have HN2 := Aside0.mk (show y3.getD i zT = mkT k i by rw [hy3, getD_set hl2, if_pos rfl, hm]; rfl)
        clear ht hy1 hy2 hy3 hm
        go_wp2_with (first | (go_at_call 177; refine (lawMarkText m _ hm0 hm1).mono ?_; rintro e_ w1 ⟨rfl, hb⟩; have n_ := Aside0.mk (HS.out.call hb); clear HS hb; have HS := n_; clear n_) | ((with_reducible refine gate_store (t := 9) (p := 17) rfl ?_); refine wpList_stp (fun K hK => ?_); refine stp_put_part (by rfl) rfl rfl HS 0 rfl i 0 hiy (by omega) (mt m, t.2.1, t.2.2) (.string (mt m)) rfl rfl (by rw [← ET.out]; rfl) rfl rfl (by kernel_rfl) ?_; clear HS; intro w1 HS; simp only [List.set_cons_zero] at HS; rw [← Y1.out] at HS; refine hK _ _ ?_; clear hK K) | ((with_reducible refine gate_store (t := 2) (p := 25) rfl ?_); refine wpList_stp (fun K hK => ?_); refine stp_put_part (by rfl) rfl rfl HS 0 rfl i 1 hl1 (by omega) (mt m, ((m + 1 : Nat) : Int), t.2.2) (.int .i64 ((m + 1 : Nat) : Int)) rfl rfl (by rw [E1.out]; rfl) rfl rfl (by kernel_rfl) ?_; clear HS; intro w1 HS; simp only [List.set_cons_zero] at HS; rw [← Y2.out] at HS; refine hK _ _ ?_; clear hK K) | ((with_reducible refine gate_store (t := 2) (p := 33) rfl ?_); refine wpList_stp (fun K hK => ?_); refine stp_put_part (by rfl) rfl rfl HS 0 rfl i 2 hl2 (by omega) (mt m, ((m + 1 : Nat) : Int), ((m + 2 : Nat) : Int)) (.int .i64 ((m + 2 : Nat) : Int)) rfl rfl (by rw [E2.out]; rfl) rfl (by go_num) (by kernel_rfl) ?_; clear HS; intro w1 HS; simp only [List.set_cons_zero] at HS; rw [← Y3.out] at HS; refine hK _ _ ?_; clear hK K))
        go_roundw
        case rel => exact ⟨i + 1, m + 3, y3, by omega, by go_num, by first | go_num | rfl, by rw [HM.out]; omega, hl3, ⟨round_next HN.out HN2.out⟩, HS⟩
        case measure => simp [intOf]; omega
      · obtain rfl : y = mkd k l.length := list_done (by rw [mkd_length]; exact hy) (fun j hj => by rw [mkd_length] at hj; rw [mkd_get hj]; exact HY.out j (by omega))
        go_wp2
        go_ret
        have hfin := HS.out.asRow (i := 0) rfl (cap := c) (by have := HC.out; rw [List.length_append, flat_length] at this ⊢; rw [mkd_length]; omega) hcm
        rw [mkd_length] at hfin
        exact ⟨ret_int (by omega), hfin⟩
end Go.Proofs.Ytcklblagklojhaa.H

