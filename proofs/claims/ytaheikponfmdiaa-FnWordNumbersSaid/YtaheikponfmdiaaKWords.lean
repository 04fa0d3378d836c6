/- The program's words: letters, lists, numbers. Conditions: the bounds that stand in each statement. -/
import Derived.Test.YtaheikponfmdiaaKLaw
import Derived.Test.YtaheikponfmdiaaKTab
namespace Go.Proofs.Ytaheikponfmdiaa.H
open Go.RowKit Go.Proofs.YtaheikponfmdiaaW.PrintWords Go.Proofs.YtaheikponfmdiaaW.PrintLast Go.Proofs.YtaheikponfmdiaaW.PrintMore Go.Proofs.Ytaheikponfmdiaa.M
attribute [local go_sem] max2_int min2_int max_two min_two max_three min_three max_four min_four
set_option linter.unusedVariables false
set_option linter.unusedSimpArgs false
set_option maxRecDepth 100000
theorem reps_str (s : ByteArray) (W : World) (base : Nat) (ok : Nat → Prop) : Reps (Kd.string.M W base ok) Kd.string.sz [s] [.string s] := Reps.one (show Kd.M Kd.string _ _ _ s [.string s] from rfl) (Reps.none _ _)
theorem str_M (s : ByteArray) (W : World) (base : Nat) (ok : Nat → Prop) : Kd.string.M W base ok s [.string s] := rfl
theorem letter_dig (q : Nat) : letter q = dig q := rfl
/-- A row of texts of one's own. -/
abbrev rowS (A : Option Addr) (c : Nat) (l : List ByteArray) : As := rw' Kd.string rfl 9 (.slice A l.length c) l
theorem implLetter (q : Nat) (hq : q < 10) (w : World) : Calls Try.prog 172 #[.int .i64 (q : Int)] w fun e w' => e = .returned (.string (letter q)) ∧ Below w.heap.size w w' := by
  have HS := Aside0.mk (Sep.refl w)
  have HW := Aside0.mk (show IntKind.u8.wrap (q : Int) = q from u8_small _ (by omega) (by omega))
  have HW2 := Aside0.mk (show IntKind.u8.wrap (48 + (q : Int)) = 48 + q from u8_small _ (by omega) (by omega))
  have hw := HW.out
  have hw2 := HW2.out
  have hcv := byte_string w (48 + (q : Int))
  go_enter Try.func172, Try.ntmps172
  go_wp2
  go_ret
  exact ⟨ret_str (by rw [dig_str q hq, letter_dig]), (HS.out.call (below_alloc (Below.refl _ _) _)).below⟩
theorem str_at {w : World} {A : Option Addr} {n : Nat} {l : List ByteArray} (h : Kd.string.C w A n l) (i : Nat) (hi : i < n) : ∃ ad, A = some ad ∧ w.cell? (ad.add i) = some (.string (l.getD i ByteArray.empty)) := by
  obtain ⟨ad, c, hA, hl, hK, hc⟩ := Kd.C_get h ByteArray.empty (i : Int) (by omega) (by omega)
  simp only [Int.toNat_natCast] at hc hK
  have hK' : c = [.string (l.getD i ByteArray.empty)] := hK
  subst hK'
  have := hc 0 _ rfl
  refine ⟨ad, hA, ?_⟩
  rwa [show Kd.string.sz = 1 from rfl, Nat.mul_one, Nat.add_zero] at this
set_option maxHeartbeats 8000000 in
theorem implWords (d n : Nat) (w : World) (hd : d ≤ 3) (hn : n ≤ 8) : Calls Try.prog 127 #[.int .i64 (d : Int), .int .i64 (n : Int)] w fun e w' => ∃ A c, e = .returned (.slice A (wordsN d n).length c) ∧ Sep w w' [rowS A c (wordsN d n)] := by
  have HS := Aside0.mk (Sep.refl w)
  go_enter Try.func127, Try.ntmps127
  go_wp2_with (first | ((with_reducible refine gate_dst (N := 10) rfl ?_); refine wpList_stp (fun K hK => ?_); refine stp_lit (Kd.string) rfl 9 (by rfl) HS (xs := ([⟨#[]⟩] : List ByteArray)) (inner := [.string ⟨#[]⟩]) (by first | (go_simp; done) | (go_simp; rfl)) (reps_str _) (by simp) ?_; clear HS; intro A_o c_o w1 HS; refine hK _ _ ?_; clear hK K))
  go_loopw [5, 12] (fun x v w' => ∃ (i : Nat) (A : Option Addr) (c : Nat) (y : List ByteArray), i ≤ n ∧ v = .int .i64 (i : Int) ∧ x = .slice A y.length c ∧ Aside0 (y = wordsN d i) ∧ Aside0 (Mod w w' No [rowS A c y])) (fun _ v _ => n - (intOf v).toNat)
  case atStart => exact ⟨0, A_o, c_o, [⟨#[]⟩], by omega, rfl, rfl, ⟨rfl⟩, HS⟩
  case round =>
    clear HS
    obtain ⟨i, A, c, y, hi, rfl, rfl, HY, HS⟩ := hrel
    by_cases hlt : i < n
    · have hyl : y.length ≤ 6561 := by rw [HY.out]; exact wordsN_le hd (by omega)
      have hys : ∀ j, j < y.length → (y.getD j ByteArray.empty).size ≤ 8 := fun j hj => by rw [HY.out, wordsN_size (n := i) (d := d) (getD_mem (by rw [← HY.out]; exact hj))]; omega
      have HYS := Aside0.mk hys
      clear hys
      go_wp2
      have n_ := Aside0.mk (HS.out.nil (d := Kd.string) (hE := rfl) (e := 9))
      clear HS
      have HS := n_
      clear n_
      go_loopw [6, 16] (fun x v w' => ∃ (j : Nat) (B : Option Addr) (b : Nat) (z : List ByteArray), j ≤ y.length ∧ v = .int .i64 (j : Int) ∧ x = .slice B z.length b ∧ Aside0 (z = nextWords d (y.take j)) ∧ Aside0 (Mod w w' No [rowS B b z, rowS A c y])) (fun _ v _ => y.length - (intOf v).toNat)
      case atStart => exact ⟨0, none, 0, [], by omega, rfl, rfl, ⟨rfl⟩, HS⟩
      case round =>
        clear HS
        obtain ⟨j, B, b, z, hj, rfl, rfl, HZ, HS⟩ := hrel
        by_cases hjl : j < y.length
        · obtain ⟨ad, ea, h0_⟩ := str_at (HS.out.reads 1 rfl) j hjl
          cases ea
          obtain ⟨s, hs⟩ : ∃ s, s = y.getD j ByteArray.empty := ⟨_, rfl⟩
          rw [← hs] at h0_
          have hs8 : s.size ≤ 8 := by rw [hs]; exact HYS.out j hjl
          have ES := Aside0.mk hs
          have H0 := Aside0.mk h0_
          clear hs h0_
          have f1_ := H0.out
          go_wp2
          clear H0
          go_loopw [6, 21] (fun x v w' => ∃ (q : Nat) (B : Option Addr) (b : Nat) (z : List ByteArray), q ≤ d ∧ v = .int .i64 (q : Int) ∧ x = .slice B z.length b ∧ Aside0 (z = makingW d y j q) ∧ Aside0 (Mod w w' No [rowS B b z, rowS (some ad) c y])) (fun _ v _ => d - (intOf v).toNat)
          case atStart => exact ⟨0, B, b, z, by omega, rfl, rfl, ⟨by rw [HZ.out, makingW_zero]⟩, HS⟩
          case round =>
            clear HS HZ
            obtain ⟨q, B, b, z, hq, rfl, rfl, HZ, HS⟩ := hrel
            by_cases hqd : q < d
            · have hzl : z.length ≤ 20000 := by rw [HZ.out]; exact makingW_le hd hyl j q (by omega)
              have hsz : (9223372036854775807 < s.size + (letter q).size) = False := eq_false (Nat.not_lt.2 (by show s.size + 1 ≤ 9223372036854775807; omega))
              go_wp2_with (first | (go_at_call 172; refine (implLetter q (by omega) _).mono ?_; rintro e_ w1 ⟨rfl, hb⟩; replace HS := sB HS hb; clear hb) | ((with_reducible refine gate_builtin (b := .append) (xs := #[.tmp 24, .tmp 29]) rfl ?_); at_builtin; refine wpList_stp (fun K hK => ?_); refine stp_app (Kd.string) rfl (by rfl) HS 0 rfl (.tmp 24) (.tmp 29) 57 9 (.string ⟨#[]⟩) 16 rfl Try.underlying57 infoString (by kernel_rfl) ((s ++ letter q)) [.string (s ++ letter q)] rfl (by first | rfl | (show Value.slice (some ⟨_, 0, none⟩) 1 1 = _; simp)) (str_M _) (by omega) ?_; clear HS; intro A_z' c_z' z' w1 Nz' HS; simp only [List.set_cons_zero, List.set_cons_succ] at HS; refine hK _ _ ?_; clear hK K))
              go_roundw
              case rel => exact ⟨q + 1, A_z', c_z', z', by omega, by go_num, rfl, ⟨by rw [Nz'.out, HZ.out, makingW_next, ← ES.out]⟩, HS⟩
              case measure => simp [intOf]; omega
            · obtain rfl : q = d := by omega
              go_wp2
              go_roundw
              case rel => exact ⟨j + 1, B, b, z, by omega, by go_num, rfl, ⟨by rw [HZ.out, makingW_end _ _ _ hjl]⟩, HS⟩
              case measure => simp [intOf]; omega
        · obtain rfl : j = y.length := by omega
          go_wp2
          replace HS : Aside0 (Mod _ _ _ [_]) := sX HS [0]
          go_roundw
          case rel => exact ⟨i + 1, B, b, z, by omega, by go_num, rfl, ⟨by rw [HZ.out, List.take_length, HY.out]; rfl⟩, HS⟩
          case measure => simp [intOf]; omega
    · obtain rfl : i = n := by omega
      go_wp2
      go_ret
      obtain rfl := HY.out
      exact ⟨A, c, rfl, HS.out⟩
set_option maxHeartbeats 8000000 in
theorem implAllWords (d n : Nat) (w : World) (hd : d ≤ 3) (hn : n ≤ 5) : Calls Try.prog 123 #[.int .i64 (d : Int), .int .i64 (n : Int)] w fun e w' => ∃ A c, e = .returned (.slice A (allW d n).length c) ∧ Sep w w' [rowS A c (allW d n)] := by
  have HS := Aside0.mk ((Sep.refl w).nil (d := Kd.string) (hE := rfl) (e := 9))
  go_enter Try.func123, Try.ntmps123
  go_wp2
  go_loopw [5, 9] (fun x v w' => ∃ (i : Nat) (A : Option Addr) (c : Nat) (y : List ByteArray), i ≤ n + 1 ∧ v = .int .i64 (i : Int) ∧ x = .slice A y.length c ∧ Aside0 (y = allU d i) ∧ Aside0 (Mod w w' No [rowS A c y])) (fun _ v _ => n + 1 - (intOf v).toNat)
  case atStart => exact ⟨0, none, 0, [], by omega, rfl, rfl, ⟨rfl⟩, HS⟩
  case round =>
    clear HS
    obtain ⟨i, A, c, y, hi, rfl, rfl, HY, HS⟩ := hrel
    by_cases hlt : i < n + 1
    · have hyl : y.length ≤ 10000 := by rw [HY.out, allU_length]; exact ahead_le hd (by omega)
      have hwl : (wordsN d i).length ≤ 6561 := wordsN_le hd (by omega)
      go_wp2_with (first | (go_at_call 127; refine (implWords d i _ hd (by omega)).mono ?_; rintro e_ w1 ⟨B, b, rfl, hs⟩; replace HS := sN1 HS hs; clear hs) | ((with_reducible refine gate_builtin (b := .append) (xs := #[.tmp 12, .tmp 15]) rfl ?_); at_builtin; refine wpList_stp (fun K hK => ?_); refine stp_rows (Kd.string) rfl (fun _ _ _ _ _ h => h) (by rfl) HS 1 rfl (.tmp 12) (.tmp 15) 57 _ 16 rfl Try.underlying57 infoString (by kernel_rfl) (wordsN d i) rfl rfl (HS.out.reads 0 rfl) (by omega) ?_; clear HS; intro A_y' c_y' y' w1 Ny' HS; simp only [List.set_cons_zero, List.set_cons_succ] at HS; refine hK _ _ ?_; clear hK K))
      replace HS : Aside0 (Mod _ _ _ [_]) := sX HS [1]
      go_roundw
      case rel => exact ⟨i + 1, A_y', c_y', y', by omega, by go_num, rfl, ⟨by rw [Ny'.out, HY.out, allU_succ]⟩, HS⟩
      case measure => simp [intOf]; omega
    · obtain rfl : i = n + 1 := by omega
      go_wp2
      go_ret
      obtain rfl := HY.out
      exact ⟨A, c, rfl, HS.out⟩
theorem take_snoc (s : ByteArray) (k : Nat) (h : k < s.size) : (bl s).take (k + 1) = (bl s).take k ++ [s[k]] := by
  unfold bl
  rw [List.take_succ_eq_append_getElem (by simpa using h)]; rfl
theorem isWd_at {d : Nat} {s : ByteArray} (h : isWd d s = true) (k : Nat) (hk : k < s.size) : 48 ≤ s[k].toNat ∧ s[k].toNat < 48 + d := isWd_iff.1 h k hk
theorem valL_take_lt {d : Nat} {s : ByteArray} (h : isWd d s = true) (k : Nat) (hk : k ≤ s.size) : valL d ((bl s).take k) < d ^ k := by
  refine valL_lt (by rw [List.length_take, bl_len]; omega) ?_
  unfold isWd isWL at *
  exact List.all_eq_true.2 fun c hc => List.all_eq_true.1 h c (List.mem_of_mem_take hc)
theorem pow_le_243 {d k : Nat} (hd : d ≤ 3) (hk : k ≤ 5) : d ^ k ≤ 243 := Nat.le_trans (Nat.pow_le_pow_left hd k) (Nat.pow_le_pow_right (n := 3) (by omega) hk)
set_option maxHeartbeats 8000000 in
theorem implNumber1 (s : ByteArray) (w : World) (hw : isWd 1 s = true) (hs : s.size ≤ 5) : Calls Try.prog 125 #[.int .i64 1, .string s] w fun e w' => e = .returned (.int .i64 ((num 1 s : Nat) : Int)) ∧ Below w.heap.size w w' := by
  have HW := Aside0.mk hw
  clear hw
  go_enter Try.func125, Try.ntmps125
  go_wp2
  go_loop [5, 6, 7, 11] (fun x y z v => ∃ k a b m : Nat, k ≤ s.size ∧ v = .int .i64 (k : Int) ∧ x = .int .i64 (a : Int) ∧ y = .int .i64 (b : Int) ∧ z = .int .i64 (m : Int) ∧ Hid (a = M.ahead 1 k) ∧ Hid (b = valL 1 ((bl s).take k)) ∧ Hid (m = 1 ^ k)) (fun _ _ _ v => s.size - (intOf v).toNat)
  case atStart => exact ⟨0, 0, 0, 1, by omega, rfl, rfl, rfl, rfl, rfl, rfl, rfl⟩
  case round =>
    obtain ⟨k, a, b, m, hk, rfl, rfl, rfl, rfl, HA, HV, HM⟩ := hrel
    have ha : a ≤ 10000 := by rw [HA.out]; exact ahead_le (by omega) (by omega)
    have hm : m ≤ 243 := by rw [HM.out]; exact pow_le_243 (by omega) (by omega)
    have hb : b < m := by rw [HV.out, HM.out]; exact valL_take_lt HW.out k hk
    by_cases hlt : k < s.size
    · obtain ⟨c, hc⟩ : ∃ c : Int, ∀ h : k < s.size, ((s[k]'h).toNat : Int) = c := ⟨((s[k]'hlt).toNat : Int), fun _ => rfl⟩
      obtain ⟨h1, h2⟩ := isWd_at HW.out k hlt
      obtain ⟨q, hq⟩ : ∃ q : Nat, c = 48 + (q : Int) := ⟨(s[k]'hlt).toNat - 48, by rw [← hc hlt]; omega⟩
      have HQ := Aside0.mk (show s[k].toNat - 48 = q by have := hc hlt; omega)
      have hq3 : q < 1 := by have := HQ.out; omega
      subst hq
      clear h1 h2
      have hu : IntKind.u8.wrap (48 + (q : Int) - 48) = q := IntWalk.u8_in _ ⟨by omega, by omega⟩ |>.trans (by omega)
      have hu2 : IntKind.u8.wrap (q : Int) = q := IntWalk.u8_in _ ⟨by omega, by omega⟩
      have HA2 := Lib.hid (show a + m = M.ahead 1 (k + 1) by rw [M.ahead, HA.out, HM.out])
      have HM2 := Lib.hid (show m * 1 = 1 ^ (k + 1) by rw [Nat.pow_succ, HM.out])
      have HV2 := Lib.hid (show b * 1 + q = valL 1 ((bl s).take (k + 1)) by rw [take_snoc s k hlt, valL_snoc, ← HV.out, HQ.out])
      go_wp2
      go_round
      case rel => exact ⟨k + 1, a + m, b * 1 + q, m * 1, by omega, by go_num, by go_num, by first | go_num | (congr 1; omega), by first | go_num | (congr 1; omega), HA2, HV2, HM2⟩
      case measure => simp [intOf]; omega
    · obtain rfl : k = s.size := by omega
      have HE := Lib.hid (show num 1 s = a + b by rw [num, HA.out, HV.out, List.take_of_length_le (by rw [bl_len]; omega)])
      go_wp2
      go_ret
      exact ⟨ret_int (by rw [HE.out]; omega), Below.refl _ _⟩
set_option maxHeartbeats 8000000 in
theorem implNumber2 (s : ByteArray) (w : World) (hw : isWd 2 s = true) (hs : s.size ≤ 5) : Calls Try.prog 125 #[.int .i64 2, .string s] w fun e w' => e = .returned (.int .i64 ((num 2 s : Nat) : Int)) ∧ Below w.heap.size w w' := by
  have HW := Aside0.mk hw
  clear hw
  go_enter Try.func125, Try.ntmps125
  go_wp2
  go_loop [5, 6, 7, 11] (fun x y z v => ∃ k a b m : Nat, k ≤ s.size ∧ v = .int .i64 (k : Int) ∧ x = .int .i64 (a : Int) ∧ y = .int .i64 (b : Int) ∧ z = .int .i64 (m : Int) ∧ Hid (a = M.ahead 2 k) ∧ Hid (b = valL 2 ((bl s).take k)) ∧ Hid (m = 2 ^ k)) (fun _ _ _ v => s.size - (intOf v).toNat)
  case atStart => exact ⟨0, 0, 0, 1, by omega, rfl, rfl, rfl, rfl, rfl, rfl, rfl⟩
  case round =>
    obtain ⟨k, a, b, m, hk, rfl, rfl, rfl, rfl, HA, HV, HM⟩ := hrel
    have ha : a ≤ 10000 := by rw [HA.out]; exact ahead_le (by omega) (by omega)
    have hm : m ≤ 243 := by rw [HM.out]; exact pow_le_243 (by omega) (by omega)
    have hb : b < m := by rw [HV.out, HM.out]; exact valL_take_lt HW.out k hk
    by_cases hlt : k < s.size
    · obtain ⟨c, hc⟩ : ∃ c : Int, ∀ h : k < s.size, ((s[k]'h).toNat : Int) = c := ⟨((s[k]'hlt).toNat : Int), fun _ => rfl⟩
      obtain ⟨h1, h2⟩ := isWd_at HW.out k hlt
      obtain ⟨q, hq⟩ : ∃ q : Nat, c = 48 + (q : Int) := ⟨(s[k]'hlt).toNat - 48, by rw [← hc hlt]; omega⟩
      have HQ := Aside0.mk (show s[k].toNat - 48 = q by have := hc hlt; omega)
      have hq3 : q < 2 := by have := HQ.out; omega
      subst hq
      clear h1 h2
      have hu : IntKind.u8.wrap (48 + (q : Int) - 48) = q := IntWalk.u8_in _ ⟨by omega, by omega⟩ |>.trans (by omega)
      have hu2 : IntKind.u8.wrap (q : Int) = q := IntWalk.u8_in _ ⟨by omega, by omega⟩
      have HA2 := Lib.hid (show a + m = M.ahead 2 (k + 1) by rw [M.ahead, HA.out, HM.out])
      have HM2 := Lib.hid (show m * 2 = 2 ^ (k + 1) by rw [Nat.pow_succ, HM.out])
      have HV2 := Lib.hid (show b * 2 + q = valL 2 ((bl s).take (k + 1)) by rw [take_snoc s k hlt, valL_snoc, ← HV.out, HQ.out])
      go_wp2
      go_round
      case rel => exact ⟨k + 1, a + m, b * 2 + q, m * 2, by omega, by go_num, by go_num, by first | go_num | (congr 1; omega), by first | go_num | (congr 1; omega), HA2, HV2, HM2⟩
      case measure => simp [intOf]; omega
    · obtain rfl : k = s.size := by omega
      have HE := Lib.hid (show num 2 s = a + b by rw [num, HA.out, HV.out, List.take_of_length_le (by rw [bl_len]; omega)])
      go_wp2
      go_ret
      exact ⟨ret_int (by rw [HE.out]; omega), Below.refl _ _⟩
set_option maxHeartbeats 8000000 in
theorem implNumber3 (s : ByteArray) (w : World) (hw : isWd 3 s = true) (hs : s.size ≤ 5) : Calls Try.prog 125 #[.int .i64 3, .string s] w fun e w' => e = .returned (.int .i64 ((num 3 s : Nat) : Int)) ∧ Below w.heap.size w w' := by
  have HW := Aside0.mk hw
  clear hw
  go_enter Try.func125, Try.ntmps125
  go_wp2
  go_loop [5, 6, 7, 11] (fun x y z v => ∃ k a b m : Nat, k ≤ s.size ∧ v = .int .i64 (k : Int) ∧ x = .int .i64 (a : Int) ∧ y = .int .i64 (b : Int) ∧ z = .int .i64 (m : Int) ∧ Hid (a = M.ahead 3 k) ∧ Hid (b = valL 3 ((bl s).take k)) ∧ Hid (m = 3 ^ k)) (fun _ _ _ v => s.size - (intOf v).toNat)
  case atStart => exact ⟨0, 0, 0, 1, by omega, rfl, rfl, rfl, rfl, rfl, rfl, rfl⟩
  case round =>
    obtain ⟨k, a, b, m, hk, rfl, rfl, rfl, rfl, HA, HV, HM⟩ := hrel
    have ha : a ≤ 10000 := by rw [HA.out]; exact ahead_le (by omega) (by omega)
    have hm : m ≤ 243 := by rw [HM.out]; exact pow_le_243 (by omega) (by omega)
    have hb : b < m := by rw [HV.out, HM.out]; exact valL_take_lt HW.out k hk
    by_cases hlt : k < s.size
    · obtain ⟨c, hc⟩ : ∃ c : Int, ∀ h : k < s.size, ((s[k]'h).toNat : Int) = c := ⟨((s[k]'hlt).toNat : Int), fun _ => rfl⟩
      obtain ⟨h1, h2⟩ := isWd_at HW.out k hlt
      obtain ⟨q, hq⟩ : ∃ q : Nat, c = 48 + (q : Int) := ⟨(s[k]'hlt).toNat - 48, by rw [← hc hlt]; omega⟩
      have HQ := Aside0.mk (show s[k].toNat - 48 = q by have := hc hlt; omega)
      have hq3 : q < 3 := by have := HQ.out; omega
      subst hq
      clear h1 h2
      have hu : IntKind.u8.wrap (48 + (q : Int) - 48) = q := IntWalk.u8_in _ ⟨by omega, by omega⟩ |>.trans (by omega)
      have hu2 : IntKind.u8.wrap (q : Int) = q := IntWalk.u8_in _ ⟨by omega, by omega⟩
      have HA2 := Lib.hid (show a + m = M.ahead 3 (k + 1) by rw [M.ahead, HA.out, HM.out])
      have HM2 := Lib.hid (show m * 3 = 3 ^ (k + 1) by rw [Nat.pow_succ, HM.out])
      have HV2 := Lib.hid (show b * 3 + q = valL 3 ((bl s).take (k + 1)) by rw [take_snoc s k hlt, valL_snoc, ← HV.out, HQ.out])
      go_wp2
      go_round
      case rel => exact ⟨k + 1, a + m, b * 3 + q, m * 3, by omega, by go_num, by go_num, by first | go_num | (congr 1; omega), by first | go_num | (congr 1; omega), HA2, HV2, HM2⟩
      case measure => simp [intOf]; omega
    · obtain rfl : k = s.size := by omega
      have HE := Lib.hid (show num 3 s = a + b by rw [num, HA.out, HV.out, List.take_of_length_le (by rw [bl_len]; omega)])
      go_wp2
      go_ret
      exact ⟨ret_int (by rw [HE.out]; omega), Below.refl _ _⟩
theorem implNumber (d : Nat) (s : ByteArray) (w : World) (h1 : 1 ≤ d) (h3 : d ≤ 3) (hw : isWd d s = true) (hs : s.size ≤ 5) : Calls Try.prog 125 #[.int .i64 (d : Int), .string s] w fun e w' => e = .returned (.int .i64 ((num d s : Nat) : Int)) ∧ Below w.heap.size w w' := by
  obtain rfl | rfl | rfl : d = 1 ∨ d = 2 ∨ d = 3 := by omega
  · exact implNumber1 s w hw hs
  · exact implNumber2 s w hw hs
  · exact implNumber3 s w hw hs
end Go.Proofs.Ytaheikponfmdiaa.H


