/- Numbers of shuffles, their words, a fraction times a whole number: what the program and the reference return. Conditions: the bounds that stand in each statement. -/
import Derived.Test.YtaheikponfmdiaaHShuf
import Derived.Test.YtaheikponfmdiaaKShufP
import Derived.Test.YtaheikponfmdiaaKTimesS
import Derived.Test.YtaheikponfmdiaaKTable6
namespace Go.Proofs.Ytaheikponfmdiaa.H
open Go.RowKit Go.Proofs.YtaheikponfmdiaaW.PrintWords Go.Proofs.YtaheikponfmdiaaW.PrintLast Go.Proofs.YtaheikponfmdiaaW.PrintMore Go.Proofs.Ytaheikponfmdiaa.M
attribute [local go_sem] max2_int min2_int max_two min_two max_three min_three max_four min_four
set_option linter.unusedVariables false
set_option linter.unusedSimpArgs false
set_option maxRecDepth 100000
/-- The number of ways in which u is a shuffle of v and w. -/
abbrev shN (v w u : ByteArray) : Nat := sh (bl v) (bl w) (bl u)
theorem specNum (v w u : ByteArray) (W : World) (hv : v.size ≤ 16) (hw : w.size ≤ 16) (hu : u.size ≤ 16) : Calls Try.prog 83 #[.string v, .string w, .string u] W fun e w' => e = .returned (.int .i64 ((shN v w u : Nat) : Int)) ∧ Below W.heap.size W w' :=
  quietB (specNumber u.size v w u W rfl hv hw hu)
theorem shN_le {v w u : ByteArray} (hu : u.size ≤ 16) : shN v w u ≤ 65536 := by
  have h := sh_le (bl u) (bl v) (bl w)
  rw [bl_len] at h
  exact Nat.le_trans h (Nat.pow_le_pow_right (n := 2) (by omega) hu)
theorem filter_snoc {l : List ByteArray} {i : Nat} {s : ByteArray} (p : ByteArray → Bool) (h : l[i]? = some s) : (l.take (i + 1)).filter p = (l.take i).filter p ++ (if p s = true then [s] else []) := by
  rw [List.take_add_one, h, List.filter_append]
  congr 1
  show List.filter p [s] = _
  by_cases hp : p s = true <;> simp [hp]
set_option maxHeartbeats 8000000 in
theorem specShW (d : Nat) (v w : ByteArray) (W : World) (hd : d ≤ 3) (hn : v.size + w.size ≤ 8) : Calls Try.prog 82 #[.int .i64 (d : Int), .string v, .string w] W fun e w' => ∃ A c, e = .returned (.slice A (shW d v w).length c) ∧ Sep W w' [rowS A c (shW d v w)] := by
  have hul := wordsN_le (d := d) (n := v.size + w.size) hd hn
  have HWD := Aside0.mk (fun X => specWordsS d (v.size + w.size) X hd hn)
  have HSZ := Aside0.mk (fun (i : Nat) (s : ByteArray) (h : (wordsN d (v.size + w.size))[i]? = some s) => (wordsN_size (List.mem_of_getElem? h) : s.size = v.size + w.size))
  have HSH := Aside0.mk (show shW d v w = ((wordsN d (v.size + w.size)).take (wordsN d (v.size + w.size)).length).filter fun u => decide (0 < shN v w u) by rw [List.take_length]; rfl)
  obtain ⟨l, hl⟩ : ∃ l, l = wordsN d (v.size + w.size) := ⟨_, rfl⟩
  rw [← hl] at hul HWD HSZ HSH
  clear hl
  have HS := Aside0.mk (Sep.refl W)
  go_enter Try.func82, Try.ntmps82
  go_wp2_with (first | (go_at_call 128; refine (HWD.out _).mono ?_; rintro e_ w1 ⟨B1, b1, rfl, hs⟩; replace HS := sN1 HS hs; clear hs) | ((with_reducible refine gate_dst (N := 17) rfl ?_); refine wpList_stp (fun K hK => ?_); refine stp_lit (Kd.string) rfl 9 (by rfl) HS (xs := ([] : List ByteArray)) (inner := []) (by first | (go_simp; done) | (go_simp; rfl)) (fun W base ok => Reps.none _ _) (by simp) ?_; clear HS; intro A_o c_o w1 HS; refine hK _ _ ?_; clear hK K))
  go_loopw [8, 9] (fun x q w' => ∃ (i : Nat) (A : Option Addr) (c : Nat) (y : List ByteArray), i ≤ l.length ∧ q = .int .i64 (i : Int) ∧ x = .slice A y.length c ∧ Aside0 (y = (l.take i).filter fun u => decide (0 < shN v w u)) ∧ Aside0 (Mod W w' No [rowS A c y, rowS B1 b1 l])) (fun _ q _ => l.length - (intOf q).toNat)
  case atStart => exact ⟨0, A_o, c_o, [], by omega, rfl, rfl, ⟨rfl⟩, HS⟩
  case round =>
    clear HS
    obtain ⟨i, A, c, y, hi, rfl, rfl, HY, HS⟩ := hrel
    by_cases hlt : i < l.length
    · obtain ⟨ad, ea, h_⟩ := str_at (HS.out.reads 1 rfl) i hlt
      clear h_
      cases ea
      obtain ⟨s, hs⟩ : ∃ s, l[i]? = some s := ⟨_, List.getElem?_eq_getElem hlt⟩
      have HE := Aside0.mk hs
      have hsz : s.size ≤ 8 := by have := HSZ.out i s hs; omega
      have HF := Aside0.mk (filter_snoc (fun u => decide (0 < shN v w u)) hs)
      have hyl : y.length ≤ 6561 := by rw [HY.out]; exact Nat.le_trans (List.length_filter_le _ _) (by rw [List.length_take]; omega)
      have HNB := Aside0.mk (fun X => specNum v w s X (by omega) (by omega) (by omega))
      obtain ⟨m, hm⟩ : ∃ m, m = shN v w s := ⟨_, rfl⟩
      rw [← hm] at HNB HF
      clear hs hm
      by_cases h0 : 0 < m
      · have HF2 := Aside0.mk (HF.out.trans (by rw [if_pos (by simpa using h0)]))
        have f1_ := HS.out.str 1 rfl HE.out
        go_wp2_with (first | (go_at_call 83; refine (HNB.out _).mono ?_; rintro e_ w1 ⟨rfl, hb⟩; replace HS := sB HS hb; clear hb f1_; have f1_ := HS.out.str 1 rfl HE.out) | ((with_reducible refine gate_builtin (b := .append) (xs := #[.tmp 32, .tmp 37]) rfl ?_); at_builtin; refine wpList_stp (fun K hK => ?_); refine stp_app (Kd.string) rfl (by rfl) HS 0 rfl (.tmp 32) (.tmp 37) 57 9 (.string ⟨#[]⟩) 16 rfl Try.underlying57 infoString (by kernel_rfl) (s) [.string s] rfl (by first | rfl | (show Value.slice (some ⟨_, 0, none⟩) 1 1 = _; simp)) (str_M _) (by omega) ?_; clear HS f1_; intro A_z' c_z' z' w1 Nz' HS; simp only [List.set_cons_zero, List.set_cons_succ] at HS; refine hK _ _ ?_; clear hK K))
        go_roundw
        case rel => exact ⟨i + 1, A_z', c_z', z', by omega, by go_num, rfl, ⟨by rw [Nz'.out, HF2.out, HY.out]⟩, HS⟩
        case measure => simp [intOf]; omega
      · have HF2 := Aside0.mk (HF.out.trans (by rw [if_neg (by simpa using h0), List.append_nil]))
        have f1_ := HS.out.str 1 rfl HE.out
        go_wp2_with (first | (go_at_call 83; refine (HNB.out _).mono ?_; rintro e_ w1 ⟨rfl, hb⟩; replace HS := sB HS hb; clear hb f1_))
        go_roundw
        case rel => exact ⟨i + 1, A, c, y, by omega, by go_num, rfl, ⟨by rw [HF2.out, HY.out]⟩, HS⟩
        case measure => simp [intOf]; omega
    · obtain rfl : i = l.length := by omega
      go_wp2
      go_ret
      obtain rfl := HY.out.trans HSH.out.symm
      exact ⟨A, c, rfl, HS.out.sel [0] (by decide)⟩
set_option maxHeartbeats 8000000 in
theorem implTimesW (a : Fr) (m : Nat) (w : World) (ha : fr a = true) (hm : m ≤ 65536) : Calls Try.prog 154 #[.agg #[.int .i64 a.1, .int .i64 a.2], .int .i64 (m : Int)] w fun e w' =>
    ∃ x y : Int, (∀ c, mul a ((m : Nat), 1) = some c → c = (x, y)) ∧ e = .returned (.tuple #[.agg #[.int .i64 x, .int .i64 y], .bool (mul a ((m : Nat), 1)).isSome]) ∧ Below w.heap.size w w' := by
  have HS := Aside0.mk (Sep.refl w)
  have hden := fr_den ha
  have hsm := fr_small ha
  unfold small at hsm
  by_cases h0 : m = 0 ∨ a.1 = 0
  · have hz : mul a ((m : Nat), 1) = some (0, 1) := mul_whole0 ha (by omega)
    rw [hz]
    by_cases hm0 : m = 0
    · have hb0 : ((m : Int) == 0) = true := by rw [hm0]; rfl
      clear h0 hz hm0
      go_enter Try.func154, Try.ntmps154
      go_wp2_with (first | ((with_reducible refine gate_dst (N := 2) rfl ?_); refine bxL 35 #[.int .i64 a.1, .int .i64 a.2] HS ?_; clear HS; intro g_p w1 hg_p HS) | ((with_reducible refine gate_dst (N := 4) rfl ?_); refine bxL 35 #[(.int .i64 0), (.int .i64 0)] HS ?_; clear HS; intro g_r w1 hg_r HS) | (go_at_call 107; refine (implZero _).mono ?_; rintro e_ w1 ⟨rfl, hb⟩; replace HS := sB HS hb; clear hb) | ((with_reducible refine gate_store (t := 35) (p := 4) rfl ?_); refine stL HS 0 0 #[.int .i64 0, .int .i64 1] rfl rfl rfl rfl rfl ?_; clear HS; intro w1 HS))
      refine bodyPost_ret (results_cell_tmp_row rfl _ _ g_r 35 #[.int .i64 0, .int .i64 1] (0, 0) _ rfl (HS.out.at (i := 0) rfl) Try.underlying35 rfl (by kernel_rfl)) rfl ?_
      exact ⟨0, 1, fun c hc => (Option.some.inj hc).symm, rfl, HS.out.below⟩
    · have hb0 : ((m : Int) == 0) = false := by rw [beq_eq_false_iff_ne]; omega
      have hb1 : (a.1 == 0) = true := by rw [beq_iff_eq]; omega
      clear h0 hz hm0
      go_enter Try.func154, Try.ntmps154
      go_wp2_with (first | ((with_reducible refine gate_dst (N := 2) rfl ?_); refine bxL 35 #[.int .i64 a.1, .int .i64 a.2] HS ?_; clear HS; intro g_p w1 hg_p HS) | ((with_reducible refine gate_dst (N := 4) rfl ?_); refine bxL 35 #[(.int .i64 0), (.int .i64 0)] HS ?_; clear HS; intro g_r w1 hg_r HS; have f1_ := HS.out.c 1 0 (v := .int .i64 a.1) rfl rfl) | (go_at_call 107; refine (implZero _).mono ?_; rintro e_ w1 ⟨rfl, hb⟩; replace HS := sB HS hb; clear hb f1_) | ((with_reducible refine gate_store (t := 35) (p := 4) rfl ?_); refine stL HS 0 0 #[.int .i64 0, .int .i64 1] rfl rfl rfl rfl rfl ?_; clear HS; intro w1 HS))
      refine bodyPost_ret (results_cell_tmp_row rfl _ _ g_r 35 #[.int .i64 0, .int .i64 1] (0, 0) _ rfl (HS.out.at (i := 0) rfl) Try.underlying35 rfl (by kernel_rfl)) rfl ?_
      exact ⟨0, 1, fun c hc => (Option.some.inj hc).symm, rfl, HS.out.below⟩
  · have hb0 : ((m : Int) == 0) = false := by rw [beq_eq_false_iff_ne]; omega
    have hb1 : (a.1 == 0) = false := by rw [beq_eq_false_iff_ne]; omega
    obtain ⟨g, hg⟩ : ∃ g : Int, g = (Int.gcd (m : Int) a.2 : Int) := ⟨_, rfl⟩
    have hgp : 0 < g := by rw [hg]; exact gcd_pos (by omega)
    have hgm : g ∣ (m : Int) := by rw [hg]; exact Int.gcd_dvd_left ..
    have hga : g ∣ a.2 := by rw [hg]; exact Int.gcd_dvd_right ..
    obtain ⟨x, hx⟩ := hgm
    obtain ⟨y, hy⟩ := hga
    have hx1 : Int.tdiv (m : Int) g = x := by rw [hx]; exact Int.mul_tdiv_cancel_left _ (by omega)
    have hy1 : Int.tdiv a.2 g = y := by rw [hy]; exact Int.mul_tdiv_cancel_left _ (by omega)
    have hmx : 0 ≤ x ∧ x ≤ 65536 := by
      have h1 : x = (m : Int) / g := by rw [hx]; exact (Int.mul_ediv_cancel_left _ (by omega)).symm
      have h2 : (m : Int) / g ≤ (m : Int) := Int.ediv_le_self _ (by omega)
      have h3 : 0 ≤ (m : Int) / g := Int.ediv_nonneg (by omega) (by omega)
      omega
    have hmy : 1 ≤ y ∧ y ≤ 1000000000 := by
      have h1 : y = a.2 / g := by rw [hy]; exact (Int.mul_ediv_cancel_left _ (by omega)).symm
      have h2 : a.2 / g ≤ a.2 := Int.ediv_le_self _ (by omega)
      have h3 : 1 ≤ a.2 / g := by
        rw [← h1]
        by_cases hy0 : y ≤ 0
        · exfalso
          have := Int.mul_nonpos_of_nonneg_of_nonpos (a := g) (b := y) (by omega) hy0
          omega
        · omega
      omega
    have hxa : -65536000000000 ≤ a.1 * x ∧ a.1 * x ≤ 65536000000000 := by
      have := mul_abs (a := a.1) (b := x) (m := 1000000000) (n := 65536) (by omega) (by omega)
      omega
    have HM := Aside0.mk (show mul a ((m : Nat), 1) = frac (a.1 * x) y by rw [← mul_whole (a := a) (n := (m : Int)) (g := g) hgp ⟨x, hx⟩ ⟨y, hy⟩, hx1, hy1])
    have HGC := Aside0.mk (fun W => hg ▸ quietB (implGcd (m : Int) a.2 W (by omega) (by omega) (by omega) (by omega)))
    have hup : inR x (-1000000000) 1000000000 = true := (inR_iff _ _ _).2 (by omega)
    have HUP := Aside0.mk (fun W => (hup ▸ quietB (implUp x 1000000000 W (by omega) (by omega)) : Calls Try.prog 185 #[.int .i64 x, .int .i64 1000000000] W fun e w' => e = .returned (.bool true) ∧ Below W.heap.size W w'))
    have HRD := Aside0.mk (fun W => implReduced (a.1 * x) y W (by omega) (by omega) (by omega) (by omega) (by omega))
    have hg0 : ¬ (g = 0) := by omega
    have hqx := (i64_w x).trans (wrap_id (x := x) (by omega) (by omega))
    have hqy := (i64_w y).trans (wrap_id (x := y) (by omega) (by omega))
    have hw1 : wrap64 (a.1 * x) = a.1 * x := wrap_id (by omega) (by omega)
    have hw2 := (i64_w _).trans hw1
    have HOK := Aside0.mk (show frac (a.1 * x) y = (if okN (a.1 * x) y = true then some (rnum (a.1 * x) y, rden (a.1 * x) y) else none) by
      unfold frac
      by_cases hk : okN (a.1 * x) y = true
      · rw [if_pos ⟨by omega, hk⟩, if_pos hk]
      · rw [if_neg (fun h => hk h.2), if_neg hk])
    have hgne : (g == 0) = false := by rw [beq_eq_false_iff_ne]; omega
    clear hg hx hy h0
    go_enter Try.func154, Try.ntmps154
    go_wp2_with (first | ((with_reducible refine gate_dst (N := 2) rfl ?_); refine bxL 35 #[.int .i64 a.1, .int .i64 a.2] HS ?_; clear HS; intro g_p w1 hg_p HS) | ((with_reducible refine gate_dst (N := 4) rfl ?_); refine bxL 35 #[(.int .i64 0), (.int .i64 0)] HS ?_; clear HS; intro g_r w1 hg_r HS; have f1_ := HS.out.c 1 0 (v := .int .i64 a.1) rfl rfl; have f2_ := HS.out.c 1 1 (v := .int .i64 a.2) rfl rfl) | (go_at_call 186; refine (HGC.out _).mono ?_; rintro e_ w1 ⟨rfl, hb⟩; replace HS := sB HS hb; clear hb f1_ f2_) | (go_at_call 185; refine (HUP.out _).mono ?_; rintro e_ w1 ⟨rfl, hb⟩; replace HS := sB HS hb; clear hb))
    replace HS := sD HS
    refine ps (.p 0 (.p 2 (.p 3 (.p 4 (.p 6 (.p 8 (.t 1 (.p 5 (.t 7 (.p 9 (.d 10 (.p 11 (.p 12 (.d 13 (.p 14 .done))))))))))))))) (fun w' => w'.cell? ⟨g_p, 0, none⟩ = some (.int .i64 a.1) ∧ w'.cell? ⟨g_p, 1, none⟩ = some (.int .i64 a.2)) [10, 13] ⟨HS.out.c 1 0 (v := .int .i64 a.1) rfl rfl, HS.out.c 1 1 (v := .int .i64 a.2) rfl rfl⟩ (fun hHeld => ?_)
    repeat (first | ((with_reducible refine gate_p ?_); refine rp rfl rfl ?_) | ((with_reducible refine gate_t ?_); refine rt rfl rfl hHeld ?_))
    refine run_d rfl (fun K hK => ?_)
    refine gc Try.func166 (HRD.out _) rfl rfl ?_
    rintro e_ w1 ⟨rfl, hb⟩
    refine ⟨_, rfl, ?_⟩
    replace HS := sB HS hb
    clear hb
    refine gd hK ?_
    clear hK K
    repeat (first | ((with_reducible refine gate_p ?_); refine rp rfl rfl ?_) | ((with_reducible refine gate_t ?_); refine rt rfl rfl hHeld ?_))
    refine run_d rfl (fun K hK => ?_)
    refine st1 HS 0 0 #[.int .i64 (rnum (a.1 * x) y), .int .i64 (rden (a.1 * x) y)] rfl rfl rfl rfl rfl ?_
    clear HS
    intro w1 HS
    refine goD hK rfl ?_
    clear hK K
    repeat (first | ((with_reducible refine gate_p ?_); refine rp rfl rfl ?_) | ((with_reducible refine gate_t ?_); refine rt rfl rfl hHeld ?_))
    refine run_done ?_
    clear hHeld
    go_wp2
    refine bodyPost_ret (results_cell_tmp_row rfl _ _ g_r 35 #[.int .i64 (rnum (a.1 * x) y), .int .i64 (rden (a.1 * x) y)] (0, 0) _ rfl (HS.out.at (i := 0) rfl) Try.underlying35 rfl (by kernel_rfl)) rfl ?_
    refine ⟨rnum (a.1 * x) y, rden (a.1 * x) y, fun c hc => ?_, ?_, HS.out.below⟩
    · rw [HM.out, HOK.out] at hc
      split at hc
      · exact (Option.some.inj hc).symm
      · cases hc
    · rw [HM.out, HOK.out]
      cases okN (a.1 * x) y <;> rfl
end Go.Proofs.Ytaheikponfmdiaa.H


