/- WordOfNumber: what the program and the reference return. Conditions: numbers that an int64 holds. -/
import Derived.Test.YtaheikponfmdiaaKNumP
import Derived.Test.YtaheikponfmdiaaKLaw
namespace Go.Proofs.Ytaheikponfmdiaa.H
open Go.RowKit Go.Proofs.YtaheikponfmdiaaW.PrintWords Go.Proofs.YtaheikponfmdiaaW.PrintLast Go.Proofs.YtaheikponfmdiaaW.PrintMore Go.Proofs.Ytaheikponfmdiaa.M
attribute [local go_sem] max2_int min2_int max_two min_two max_three min_three max_four min_four
set_option linter.unusedVariables false
set_option linter.unusedSimpArgs false
set_option maxRecDepth 100000
/-- A text and a code. -/
def RetX (w : World) (r : ByteArray × Int) (e : Ending) (w' : World) : Prop := e = .returned (.tuple #[.string r.1, .int .i64 r.2]) ∧ Below w.heap.size w w'
theorem Mod.sy {w W : World} {S : Nat → Prop} {L : List As} (h : Mod w W S L) (i : Nat) {ad : Addr} {c : Nat} {u : List ByteArray} (hi : L[i]? = some (rowS (some ad) c u)) {j : Nat} {s : ByteArray} (hj : u[j]? = some s) : W.cell? (ad.add j) = some (.string s) := by
  obtain ⟨h1, h2⟩ := List.getElem?_eq_some_iff.1 hj
  obtain ⟨ad', e, h0⟩ := str_at (h.reads i hi) j h1
  cases e
  rwa [List.getD_eq_getElem?_getD, hj] at h0
set_option maxHeartbeats 4000000 in
theorem implWordOfNumber (d k : Int) (w : World) : Calls Try.prog 36 #[.int .i64 d, .int .i64 k] w (RetX w (wonR d k)) := by
  have HS := Aside0.mk (Sep.refl w)
  unfold wonR
  have HA := Aside0.mk (fun X => quietB (implLetters d X))
  cases h : inR d 1 3 with
  | false =>
    rw [h] at HA
    go_enter Try.func36, Try.ntmps36
    go_wp2_with (first | (go_at_call 122; refine (HA.out _).mono ?_; rintro e_ w1 ⟨rfl, hb⟩; replace HS := sB HS hb; clear hb))
    go_ret2
    exact ⟨rfl, HS.out.below⟩
  | true =>
    rw [h] at HA
    obtain ⟨d, rfl, hd1, hd3⟩ := inR_nat h
    rw [Int.toNat_natCast, if_pos rfl]
    by_cases hk : 0 ≤ k
    · rw [if_pos hk]
      obtain ⟨k, rfl⟩ : ∃ n : Nat, k = n := ⟨k.toNat, by omega⟩
      rw [Int.toNat_natCast]
      have hk0 : ¬ ((k : Int) < 0) := by omega
      clear hk
      have HW := Aside0.mk (fun X => implAllWords d 5 X hd3 (by decide))
      obtain ⟨ws, hws⟩ : ∃ ws, ws = allW d 5 := ⟨_, rfl⟩
      rw [← hws] at HW
      rw [← hws]
      clear hws
      by_cases hl : k < ws.length
      · obtain ⟨s, hs⟩ : ∃ s, ws[k]? = some s := ⟨_, List.getElem?_eq_getElem hl⟩
        have HE := Aside0.mk hs
        rw [hs]
        clear hs
        have hge : ¬ ((ws.length : Int) ≤ (k : Int)) := by omega
        go_enter Try.func36, Try.ntmps36
        go_wp2_with (first | (go_at_call 122; refine (HA.out _).mono ?_; rintro e_ w1 ⟨rfl, hb⟩; replace HS := sB HS hb; clear hb) | (go_at_call 123; refine (HW.out _).mono ?_; rintro e_ w1 ⟨B, b, rfl, hs⟩; replace HS := sN1 HS hs; clear hs; obtain ⟨ad, ea, h_⟩ := str_at (HS.out.reads 0 rfl) 0 (by omega); clear h_; cases ea; have f1_ := HS.out.sy 0 rfl HE.out))
        go_ret2
        exact ⟨rfl, (HS.out.sel [] (by decide)).below⟩
      · have hn : ws[k]? = none := List.getElem?_eq_none (by omega)
        rw [hn]
        clear hn
        have hge : ((ws.length : Int) ≤ (k : Int)) := by omega
        go_enter Try.func36, Try.ntmps36
        go_wp2_with (first | (go_at_call 122; refine (HA.out _).mono ?_; rintro e_ w1 ⟨rfl, hb⟩; replace HS := sB HS hb; clear hb) | (go_at_call 123; refine (HW.out _).mono ?_; rintro e_ w1 ⟨B, b, rfl, hs⟩; replace HS := sN1 HS hs; clear hs))
        go_ret2
        exact ⟨rfl, (HS.out.sel [] (by decide)).below⟩
    · rw [if_neg hk]
      have hk0 : k < 0 := by omega
      clear hk
      go_enter Try.func36, Try.ntmps36
      go_wp2_with (first | (go_at_call 122; refine (HA.out _).mono ?_; rintro e_ w1 ⟨rfl, hb⟩; replace HS := sB HS hb; clear hb))
      go_ret2
      exact ⟨rfl, HS.out.below⟩
theorem word_step {d j q : Nat} (hd : 0 < d) {s out : ByteArray} {k n : Nat} (h : ∀ s, (wordsN d (j + 1))[q]? = some s → (wordsN d n)[k]? = some (s ++ out)) : ∀ s, (wordsN d j)[q / d]? = some s → (wordsN d n)[k]? = some (s ++ (letter (q % d) ++ out)) := fun s hs => by
  rw [← ByteArray.append_assoc]
  refine h _ ?_
  rw [wordsN, nextWords_get hd, hs]
  rfl
set_option maxHeartbeats 8000000 in
theorem specWordOfNumber2 (k : Nat) (w : World) (hk : k ≤ 4611686018427387904) : Calls Try.prog 37 #[.int .i64 2, .int .i64 (k : Int)] w (RetX w (match (allW 2 5)[k]? with | some s => (s, 0) | none => (⟨#[]⟩, 2))) := by
  have HI := Aside0.mk (fun X => (specInB 2 1 3 X : Calls Try.prog 115 #[.int .i64 2, .int .i64 1, .int .i64 3] X fun e w' => e = .returned (.bool true) ∧ Below X.heap.size X w'))
  have hk0 : ¬ ((k : Int) < 0) := by omega
  have HS := Aside0.mk (Sep.refl w)
  obtain ⟨R, hR⟩ : ∃ R : ByteArray × Int, R = (match (allW 2 5)[k]? with | some s => (s, 0) | none => (⟨#[]⟩, 2)) := ⟨_, rfl⟩
  rw [← hR]
  have HR := Aside0.mk hR
  clear hR
  go_enter Try.func37, Try.ntmps37
  go_wp2_with (first | (go_at_call 115; refine (HI.out _).mono ?_; rintro e_ w1 ⟨rfl, hb⟩; replace HS := sB HS hb; clear hb))
  go_loopw [1, 6] (fun x v w' => ∃ n r : Nat, n ≤ 6 ∧ v = .int .i64 (n : Int) ∧ x = .int .i64 (r : Int) ∧ Aside0 (k = M.ahead 2 n + r) ∧ Aside0 (Mod w w' No [])) (fun _ v _ => 6 - (intOf v).toNat)
  case atStart => exact ⟨0, k, by omega, rfl, rfl, ⟨by show k = 0 + k; omega⟩, HS⟩
  case round =>
    clear HS
    obtain ⟨n, r, hn, rfl, rfl, HK, HS⟩ := hrel
    have hrk : r ≤ 4611686018427387904 := by have := HK.out; omega
    by_cases hlt : n ≤ 5
    · have hp : 2 ^ n ≤ 243 := pow_le_243 (by omega) hlt
      have HC := Aside0.mk (fun X => specCount2 n hlt X)
      have HWL := Aside0.mk (wordsN_length 2 n)
      have HA2 := Aside0.mk (show M.ahead 2 (n + 1) = M.ahead 2 n + 2 ^ n from rfl)
      obtain ⟨p, hpp⟩ : ∃ p, p = 2 ^ n := ⟨_, rfl⟩
      rw [← hpp] at hp HC HWL HA2
      clear hpp
      by_cases hge : p ≤ r
      · have HN := Aside0.mk (show k = M.ahead 2 (n + 1) + (r - p) by rw [HA2.out, HK.out]; omega)
        have tk1_ : True := trivial
        go_wp2_with (first | (go_at_call 124; clear tk1_; refine (HC.out _).mono ?_; rintro e_ w1 ⟨rfl, hb⟩; replace HS := sB HS hb; clear hb) | (go_at_call 124; refine (HC.out _).mono ?_; rintro e_ w1 ⟨rfl, hb⟩; replace HS := sB HS hb; clear hb))
        go_roundw
        case rel => exact ⟨n + 1, r - p, by omega, by go_num, by first | go_num | (congr 1; omega), HN, HS⟩
        case measure => simp [intOf]; omega
      · have HG := Aside0.mk (show (allW 2 5)[k]? = (wordsN 2 n)[r]? by rw [HK.out]; exact allU_at (by rw [HWL.out]; omega) 6 (by omega))
        have hr : r < 243 := by omega
        go_wp2_with (first | (go_at_call 124; refine (HC.out _).mono ?_; rintro e_ w1 ⟨rfl, hb⟩; replace HS := sB HS hb; clear hb))
        go_loopw [1, 6, 7] (fun x v y w' => ∃ (j q : Nat) (out : ByteArray), j ≤ n ∧ q < 243 ∧ out.size + j ≤ n ∧ x = .int .i64 (q : Int) ∧ v = .int .i64 (j : Int) ∧ y = .string out ∧ Aside0 (q < (wordsN 2 j).length) ∧ Aside0 (∀ s, (wordsN 2 j)[q]? = some s → (wordsN 2 n)[r]? = some (s ++ out)) ∧ Aside0 (Mod w w' No [])) (fun _ v _ _ => (intOf v).toNat)
        case atStart => exact ⟨n, r, ⟨#[]⟩, by omega, by omega, by show 0 + n ≤ n; omega, rfl, rfl, rfl, ⟨by rw [HWL.out]; omega⟩, ⟨fun s hs => hs.trans (congrArg some ByteArray.append_empty.symm)⟩, HS⟩
        case round =>
          clear HS
          obtain ⟨j, q, out, hj, hq, hos, rfl, rfl, rfl, HQ, HO, HS⟩ := hrel
          by_cases hlt2 : 0 < j
          · obtain ⟨i, rfl⟩ : ∃ i, j = i + 1 := ⟨j - 1, by omega⟩
            have HST := Aside0.mk (word_step (s := out) (by decide) HO.out)
            have HQ2 := Aside0.mk (show q / 2 < (wordsN 2 i).length by have h := HQ.out; rw [wordsN_length] at h ⊢; rw [Nat.pow_succ] at h; exact Nat.div_lt_of_lt_mul (by rw [Nat.mul_comm]; exact h))
            obtain ⟨u, hu⟩ : ∃ u, u = q % 2 := ⟨_, rfl⟩
            have hu3 : u < 2 := by omega
            obtain ⟨v, hv⟩ : ∃ v, v = q / 2 := ⟨_, rfl⟩
            have hv3 : v < 243 := by omega
            have hum : (q : Int) % 2 = (u : Int) := by omega
            have hvm : (q : Int) / 2 = (v : Int) := by omega
            rw [← hu, ← hv] at HST
            rw [← hv] at HQ2
            have hls := letter_str u (by omega)
            have HLS := Aside0.mk hls
            clear hu hv hls
            have hw2 : IntKind.u8.wrap (48 + (u : Int)) = 48 + u := u8_small _ (by omega) (by omega)
            have hcv : ∀ W : World, (convert 48 9 (.slice (some ⟨W.heap.size, 0, none⟩) 1 1)).run Try.prog (W.alloc (.cells #[.int .u8 (48 + (u : Int))] 5)) = .ok (.string (strOfNums [48 + (u : Int)])) (W.alloc (.cells #[.int .u8 (48 + (u : Int))] 5)) := fun W => byte_string W (48 + (u : Int))
            have hsz : (9223372036854775807 < (strOfNums [48 + (u : Int)]).size + out.size) = False := eq_false (Nat.not_lt.2 (show 1 + out.size ≤ 9223372036854775807 by omega))
            go_wp2
            go_roundw
            case rel => exact ⟨i, v, strOfNums [48 + (u : Int)] ++ out, by omega, by omega, by rw [ByteArray.size_append]; show 1 + out.size + i ≤ n; omega, by go_num, by first | go_num | (congr 1; omega), rfl, HQ2, ⟨by rw [HLS.out]; exact HST.out⟩, ⟨HS.out.call (below_alloc (Below.refl _ _) _)⟩⟩
            case measure => first | (simp [intOf]; done) | (simp [intOf]; omega)
          · obtain rfl : j = 0 := by omega
            have hq0 : q = 0 := by have h := HQ.out; rw [wordsN_length] at h; omega
            have HF := Aside0.mk ((HO.out ⟨#[]⟩ (by rw [hq0]; rfl)).trans (congrArg some ByteArray.empty_append))
            clear hq0
            go_wp2
            go_ret2
            have hr := HR.out
            rw [HG.out, HF.out] at hr
            subst hr
            exact ⟨rfl, HS.out.below⟩
    · obtain rfl : n = 6 := by omega
      have HF := Aside0.mk (show (allW 2 5)[k]? = none by rw [List.getElem?_eq_none]; rw [show (allW 2 5).length = M.ahead 2 6 from allU_length 2 6]; have := HK.out; omega)
      go_wp2
      go_ret2
      have hr := HR.out
      rw [HF.out] at hr
      subst hr
      exact ⟨rfl, HS.out.below⟩
set_option maxHeartbeats 8000000 in
theorem specWordOfNumber3 (k : Nat) (w : World) (hk : k ≤ 4611686018427387904) : Calls Try.prog 37 #[.int .i64 3, .int .i64 (k : Int)] w (RetX w (match (allW 3 5)[k]? with | some s => (s, 0) | none => (⟨#[]⟩, 2))) := by
  have HI := Aside0.mk (fun X => (specInB 3 1 3 X : Calls Try.prog 115 #[.int .i64 3, .int .i64 1, .int .i64 3] X fun e w' => e = .returned (.bool true) ∧ Below X.heap.size X w'))
  have hk0 : ¬ ((k : Int) < 0) := by omega
  have HS := Aside0.mk (Sep.refl w)
  obtain ⟨R, hR⟩ : ∃ R : ByteArray × Int, R = (match (allW 3 5)[k]? with | some s => (s, 0) | none => (⟨#[]⟩, 2)) := ⟨_, rfl⟩
  rw [← hR]
  have HR := Aside0.mk hR
  clear hR
  go_enter Try.func37, Try.ntmps37
  go_wp2_with (first | (go_at_call 115; refine (HI.out _).mono ?_; rintro e_ w1 ⟨rfl, hb⟩; replace HS := sB HS hb; clear hb))
  go_loopw [1, 6] (fun x v w' => ∃ n r : Nat, n ≤ 6 ∧ v = .int .i64 (n : Int) ∧ x = .int .i64 (r : Int) ∧ Aside0 (k = M.ahead 3 n + r) ∧ Aside0 (Mod w w' No [])) (fun _ v _ => 6 - (intOf v).toNat)
  case atStart => exact ⟨0, k, by omega, rfl, rfl, ⟨by show k = 0 + k; omega⟩, HS⟩
  case round =>
    clear HS
    obtain ⟨n, r, hn, rfl, rfl, HK, HS⟩ := hrel
    have hrk : r ≤ 4611686018427387904 := by have := HK.out; omega
    by_cases hlt : n ≤ 5
    · have hp : 3 ^ n ≤ 243 := pow_le_243 (by omega) hlt
      have HC := Aside0.mk (fun X => specCount3 n hlt X)
      have HWL := Aside0.mk (wordsN_length 3 n)
      have HA2 := Aside0.mk (show M.ahead 3 (n + 1) = M.ahead 3 n + 3 ^ n from rfl)
      obtain ⟨p, hpp⟩ : ∃ p, p = 3 ^ n := ⟨_, rfl⟩
      rw [← hpp] at hp HC HWL HA2
      clear hpp
      by_cases hge : p ≤ r
      · have HN := Aside0.mk (show k = M.ahead 3 (n + 1) + (r - p) by rw [HA2.out, HK.out]; omega)
        have tk2_ : True := trivial
        go_wp2_with (first | (go_at_call 124; clear tk2_; refine (HC.out _).mono ?_; rintro e_ w1 ⟨rfl, hb⟩; replace HS := sB HS hb; clear hb) | (go_at_call 124; refine (HC.out _).mono ?_; rintro e_ w1 ⟨rfl, hb⟩; replace HS := sB HS hb; clear hb))
        go_roundw
        case rel => exact ⟨n + 1, r - p, by omega, by go_num, by first | go_num | (congr 1; omega), HN, HS⟩
        case measure => simp [intOf]; omega
      · have HG := Aside0.mk (show (allW 3 5)[k]? = (wordsN 3 n)[r]? by rw [HK.out]; exact allU_at (by rw [HWL.out]; omega) 6 (by omega))
        have hr : r < 243 := by omega
        go_wp2_with (first | (go_at_call 124; refine (HC.out _).mono ?_; rintro e_ w1 ⟨rfl, hb⟩; replace HS := sB HS hb; clear hb))
        go_loopw [1, 6, 7] (fun x v y w' => ∃ (j q : Nat) (out : ByteArray), j ≤ n ∧ q < 243 ∧ out.size + j ≤ n ∧ x = .int .i64 (q : Int) ∧ v = .int .i64 (j : Int) ∧ y = .string out ∧ Aside0 (q < (wordsN 3 j).length) ∧ Aside0 (∀ s, (wordsN 3 j)[q]? = some s → (wordsN 3 n)[r]? = some (s ++ out)) ∧ Aside0 (Mod w w' No [])) (fun _ v _ _ => (intOf v).toNat)
        case atStart => exact ⟨n, r, ⟨#[]⟩, by omega, by omega, by show 0 + n ≤ n; omega, rfl, rfl, rfl, ⟨by rw [HWL.out]; omega⟩, ⟨fun s hs => hs.trans (congrArg some ByteArray.append_empty.symm)⟩, HS⟩
        case round =>
          clear HS
          obtain ⟨j, q, out, hj, hq, hos, rfl, rfl, rfl, HQ, HO, HS⟩ := hrel
          by_cases hlt2 : 0 < j
          · obtain ⟨i, rfl⟩ : ∃ i, j = i + 1 := ⟨j - 1, by omega⟩
            have HST := Aside0.mk (word_step (s := out) (by decide) HO.out)
            have HQ2 := Aside0.mk (show q / 3 < (wordsN 3 i).length by have h := HQ.out; rw [wordsN_length] at h ⊢; rw [Nat.pow_succ] at h; exact Nat.div_lt_of_lt_mul (by rw [Nat.mul_comm]; exact h))
            obtain ⟨u, hu⟩ : ∃ u, u = q % 3 := ⟨_, rfl⟩
            have hu3 : u < 3 := by omega
            obtain ⟨v, hv⟩ : ∃ v, v = q / 3 := ⟨_, rfl⟩
            have hv3 : v < 243 := by omega
            have hum : (q : Int) % 3 = (u : Int) := by omega
            have hvm : (q : Int) / 3 = (v : Int) := by omega
            rw [← hu, ← hv] at HST
            rw [← hv] at HQ2
            have hls := letter_str u (by omega)
            have HLS := Aside0.mk hls
            clear hu hv hls
            have hw2 : IntKind.u8.wrap (48 + (u : Int)) = 48 + u := u8_small _ (by omega) (by omega)
            have hcv : ∀ W : World, (convert 48 9 (.slice (some ⟨W.heap.size, 0, none⟩) 1 1)).run Try.prog (W.alloc (.cells #[.int .u8 (48 + (u : Int))] 5)) = .ok (.string (strOfNums [48 + (u : Int)])) (W.alloc (.cells #[.int .u8 (48 + (u : Int))] 5)) := fun W => byte_string W (48 + (u : Int))
            have hsz : (9223372036854775807 < (strOfNums [48 + (u : Int)]).size + out.size) = False := eq_false (Nat.not_lt.2 (show 1 + out.size ≤ 9223372036854775807 by omega))
            go_wp2
            go_roundw
            case rel => exact ⟨i, v, strOfNums [48 + (u : Int)] ++ out, by omega, by omega, by rw [ByteArray.size_append]; show 1 + out.size + i ≤ n; omega, by go_num, by first | go_num | (congr 1; omega), rfl, HQ2, ⟨by rw [HLS.out]; exact HST.out⟩, ⟨HS.out.call (below_alloc (Below.refl _ _) _)⟩⟩
            case measure => first | (simp [intOf]; done) | (simp [intOf]; omega)
          · obtain rfl : j = 0 := by omega
            have hq0 : q = 0 := by have h := HQ.out; rw [wordsN_length] at h; omega
            have HF := Aside0.mk ((HO.out ⟨#[]⟩ (by rw [hq0]; rfl)).trans (congrArg some ByteArray.empty_append))
            clear hq0
            go_wp2
            go_ret2
            have hr := HR.out
            rw [HG.out, HF.out] at hr
            subst hr
            exact ⟨rfl, HS.out.below⟩
    · obtain rfl : n = 6 := by omega
      have HF := Aside0.mk (show (allW 3 5)[k]? = none by rw [List.getElem?_eq_none]; rw [show (allW 3 5).length = M.ahead 3 6 from allU_length 3 6]; have := HK.out; omega)
      go_wp2
      go_ret2
      have hr := HR.out
      rw [HF.out] at hr
      subst hr
      exact ⟨rfl, HS.out.below⟩
set_option maxHeartbeats 8000000 in
theorem specWordOfNumber1 (k : Nat) (w : World) (hk : k ≤ 4611686018427387904) : Calls Try.prog 37 #[.int .i64 1, .int .i64 (k : Int)] w (RetX w (match (allW 1 5)[k]? with | some s => (s, 0) | none => (⟨#[]⟩, 2))) := by
  have HI := Aside0.mk (fun X => (specInB 1 1 3 X : Calls Try.prog 115 #[.int .i64 1, .int .i64 1, .int .i64 3] X fun e w' => e = .returned (.bool true) ∧ Below X.heap.size X w'))
  have hk0 : ¬ ((k : Int) < 0) := by omega
  have HS := Aside0.mk (Sep.refl w)
  obtain ⟨R, hR⟩ : ∃ R : ByteArray × Int, R = (match (allW 1 5)[k]? with | some s => (s, 0) | none => (⟨#[]⟩, 2)) := ⟨_, rfl⟩
  rw [← hR]
  have HR := Aside0.mk hR
  clear hR
  go_enter Try.func37, Try.ntmps37
  go_wp2_with (first | (go_at_call 115; refine (HI.out _).mono ?_; rintro e_ w1 ⟨rfl, hb⟩; replace HS := sB HS hb; clear hb))
  go_loopw [1, 6] (fun x v w' => ∃ n r : Nat, n ≤ 6 ∧ v = .int .i64 (n : Int) ∧ x = .int .i64 (r : Int) ∧ Aside0 (k = M.ahead 1 n + r) ∧ Aside0 (Mod w w' No [])) (fun _ v _ => 6 - (intOf v).toNat)
  case atStart => exact ⟨0, k, by omega, rfl, rfl, ⟨by show k = 0 + k; omega⟩, HS⟩
  case round =>
    clear HS
    obtain ⟨n, r, hn, rfl, rfl, HK, HS⟩ := hrel
    have hrk : r ≤ 4611686018427387904 := by have := HK.out; omega
    by_cases hlt : n ≤ 5
    · have hp : 1 ^ n ≤ 243 := pow_le_243 (by omega) hlt
      have HC := Aside0.mk (fun X => specCount1 n hlt X)
      have HWL := Aside0.mk (wordsN_length 1 n)
      have HA2 := Aside0.mk (show M.ahead 1 (n + 1) = M.ahead 1 n + 1 ^ n from rfl)
      obtain ⟨p, hpp⟩ : ∃ p, p = 1 ^ n := ⟨_, rfl⟩
      rw [← hpp] at hp HC HWL HA2
      clear hpp
      by_cases hge : p ≤ r
      · have HN := Aside0.mk (show k = M.ahead 1 (n + 1) + (r - p) by rw [HA2.out, HK.out]; omega)
        have tk3_ : True := trivial
        go_wp2_with (first | (go_at_call 124; clear tk3_; refine (HC.out _).mono ?_; rintro e_ w1 ⟨rfl, hb⟩; replace HS := sB HS hb; clear hb) | (go_at_call 124; refine (HC.out _).mono ?_; rintro e_ w1 ⟨rfl, hb⟩; replace HS := sB HS hb; clear hb))
        go_roundw
        case rel => exact ⟨n + 1, r - p, by omega, by go_num, by first | go_num | (congr 1; omega), HN, HS⟩
        case measure => simp [intOf]; omega
      · have HG := Aside0.mk (show (allW 1 5)[k]? = (wordsN 1 n)[r]? by rw [HK.out]; exact allU_at (by rw [HWL.out]; omega) 6 (by omega))
        have hr : r < 243 := by omega
        go_wp2_with (first | (go_at_call 124; refine (HC.out _).mono ?_; rintro e_ w1 ⟨rfl, hb⟩; replace HS := sB HS hb; clear hb))
        go_loopw [1, 6, 7] (fun x v y w' => ∃ (j q : Nat) (out : ByteArray), j ≤ n ∧ q < 243 ∧ out.size + j ≤ n ∧ x = .int .i64 (q : Int) ∧ v = .int .i64 (j : Int) ∧ y = .string out ∧ Aside0 (q < (wordsN 1 j).length) ∧ Aside0 (∀ s, (wordsN 1 j)[q]? = some s → (wordsN 1 n)[r]? = some (s ++ out)) ∧ Aside0 (Mod w w' No [])) (fun _ v _ _ => (intOf v).toNat)
        case atStart => exact ⟨n, r, ⟨#[]⟩, by omega, by omega, by show 0 + n ≤ n; omega, rfl, rfl, rfl, ⟨by rw [HWL.out]; omega⟩, ⟨fun s hs => hs.trans (congrArg some ByteArray.append_empty.symm)⟩, HS⟩
        case round =>
          clear HS
          obtain ⟨j, q, out, hj, hq, hos, rfl, rfl, rfl, HQ, HO, HS⟩ := hrel
          by_cases hlt2 : 0 < j
          · obtain ⟨i, rfl⟩ : ∃ i, j = i + 1 := ⟨j - 1, by omega⟩
            have HST := Aside0.mk (word_step (s := out) (by decide) HO.out)
            have HQ2 := Aside0.mk (show q / 1 < (wordsN 1 i).length by have h := HQ.out; rw [wordsN_length] at h ⊢; rw [Nat.pow_succ] at h; exact Nat.div_lt_of_lt_mul (by rw [Nat.mul_comm]; exact h))
            have hq0 : q = 0 := by have h := HQ.out; rw [wordsN_length] at h; simp at h; omega
            subst hq0
            have HLS := Aside0.mk (letter_str 0 (by omega))
            have hcv : ∀ W : World, (convert 48 9 (.slice (some ⟨W.heap.size, 0, none⟩) 1 1)).run Try.prog (W.alloc (.cells #[.int .u8 48] 5)) = .ok (.string (strOfNums [48])) (W.alloc (.cells #[.int .u8 48] 5)) := fun W => byte_string W 48
            have hsz : (9223372036854775807 < (strOfNums [48]).size + out.size) = False := eq_false (Nat.not_lt.2 (show 1 + out.size ≤ 9223372036854775807 by omega))
            go_wp2
            go_roundw
            case rel => exact ⟨i, 0, strOfNums [48] ++ out, by omega, by omega, by rw [ByteArray.size_append]; show 1 + out.size + i ≤ n; omega, by go_num, by first | go_num | (congr 1; omega), rfl, HQ2, ⟨by have h := HLS.out; rw [show strOfNums [48] = letter 0 from h]; exact HST.out⟩, ⟨HS.out.call (below_alloc (Below.refl _ _) _)⟩⟩
            case measure => first | (simp [intOf]; done) | (simp [intOf]; omega)
          · obtain rfl : j = 0 := by omega
            have hq0 : q = 0 := by have h := HQ.out; rw [wordsN_length] at h; omega
            have HF := Aside0.mk ((HO.out ⟨#[]⟩ (by rw [hq0]; rfl)).trans (congrArg some ByteArray.empty_append))
            clear hq0
            go_wp2
            go_ret2
            have hr := HR.out
            rw [HG.out, HF.out] at hr
            subst hr
            exact ⟨rfl, HS.out.below⟩
    · obtain rfl : n = 6 := by omega
      have HF := Aside0.mk (show (allW 1 5)[k]? = none by rw [List.getElem?_eq_none]; rw [show (allW 1 5).length = M.ahead 1 6 from allU_length 1 6]; have := HK.out; omega)
      go_wp2
      go_ret2
      have hr := HR.out
      rw [HF.out] at hr
      subst hr
      exact ⟨rfl, HS.out.below⟩
set_option maxHeartbeats 4000000 in
theorem specWordOfNumber (d k : Int) (w : World) (hk2 : k ≤ 4611686018427387904) : Calls Try.prog 37 #[.int .i64 d, .int .i64 k] w (RetX w (wonR d k)) := by
  have HS := Aside0.mk (Sep.refl w)
  unfold wonR
  have HA := Aside0.mk (fun X => specInB d 1 3 X)
  cases h : inR d 1 3 with
  | false =>
    rw [h] at HA
    go_enter Try.func37, Try.ntmps37
    go_wp2_with (first | (go_at_call 115; refine (HA.out _).mono ?_; rintro e_ w1 ⟨rfl, hb⟩; replace HS := sB HS hb; clear hb))
    go_ret2
    exact ⟨rfl, HS.out.below⟩
  | true =>
    rw [h] at HA
    obtain ⟨d, rfl, hd1, hd3⟩ := inR_nat h
    rw [Int.toNat_natCast, if_pos rfl]
    by_cases hk : 0 ≤ k
    · rw [if_pos hk]
      obtain ⟨k, rfl⟩ : ∃ n : Nat, k = n := ⟨k.toNat, by omega⟩
      rw [Int.toNat_natCast]
      obtain rfl | rfl | rfl : d = 1 ∨ d = 2 ∨ d = 3 := by omega
      · exact specWordOfNumber1 k w (by omega)
      · exact specWordOfNumber2 k w (by omega)
      · exact specWordOfNumber3 k w (by omega)
    · rw [if_neg hk]
      have hk0 : k < 0 := by omega
      clear hk
      go_enter Try.func37, Try.ntmps37
      go_wp2_with (first | (go_at_call 115; refine (HA.out _).mono ?_; rintro e_ w1 ⟨rfl, hb⟩; replace HS := sB HS hb; clear hb))
      go_ret2
      exact ⟨rfl, HS.out.below⟩
set_option maxHeartbeats 4000000 in
theorem lawWords5 (A B : Option Addr) (a b : Nat) (l : List ByteArray) (w : World) (hr : Kd.string.C w A l.length l) (hr2 : Kd.string.C w B l.length l) : Calls Try.prog 44 #[.slice A l.length a, .slice B l.length b] w fun e w' => e = .returned (.bool true) ∧ Below w.heap.size w w' := by
  have HR := Aside0.mk hr
  have HR2 := Aside0.mk hr2
  have hll : l.length ≤ 9223372036854775807 := Kd.C_max hr
  have HS := Aside0.mk (Sep.refl w)
  clear hr hr2
  go_enter Try.func44, Try.ntmps44
  go_wp2
  go_loopw [5] (fun v w' => ∃ i : Nat, i ≤ l.length ∧ v = .int .i64 (i : Int) ∧ Aside0 (Mod w w' No [])) (fun v _ => l.length - (intOf v).toNat)
  case atStart => exact ⟨0, by omega, rfl, HS⟩
  case round =>
    clear HS
    obtain ⟨i, hi, rfl, HS⟩ := hrel
    by_cases hlt : i < l.length
    · obtain ⟨s, hs⟩ : ∃ s, l.getD i ByteArray.empty = s := ⟨_, rfl⟩
      obtain ⟨ad, ea, h1⟩ := str_at HR.out i hlt
      cases ea
      obtain ⟨ad2, ea, h2⟩ := str_at HR2.out i hlt
      cases ea
      rw [hs] at h1 h2
      have H1 := Aside0.mk h1
      have H2 := Aside0.mk h2
      clear h1 h2 hs
      go_wp2
      replace HS := sD HS
      refine ps (.p 0 (.p 1 (.p 2 (.p 4 (.p 5 (.p 6 (.t 3 (.t 7 (.p 8 .done))))))))) (fun w' => w'.cell? (ad.add i) = some (.string s) ∧ w'.cell? (ad2.add i) = some (.string s)) [] ⟨HS.out.old H1.out, HS.out.old H2.out⟩ (fun hHeld => ?_)
      repeat (first | ((with_reducible refine gate_p ?_); refine rp rfl rfl ?_) | ((with_reducible refine gate_t ?_); refine rt rfl rfl hHeld ?_))
      refine run_done ?_
      clear hHeld
      go_wp2
      go_roundw
      case rel => exact ⟨i + 1, by omega, by go_num, HS⟩
      case measure => simp [intOf]; omega
    · obtain rfl : i = l.length := by omega
      go_wp2
      go_ret
      exact ⟨rfl, HS.out.below⟩
end Go.Proofs.Ytaheikponfmdiaa.H


