/- The lists of words: what the reference's l01Words returns: proved by walking its code. Conditions: at most 3 letters, at most 8 long. -/
import Derived.Test.YtaheikponfmdiaaKWords
import Derived.Test.YtaheikponfmdiaaWRepsOne
namespace Go.Proofs.Ytaheikponfmdiaa.H
open Go.RowKit Go.Proofs.YtaheikponfmdiaaW.PrintWords Go.Proofs.YtaheikponfmdiaaW.PrintLast Go.Proofs.YtaheikponfmdiaaW.PrintMore Go.Proofs.Ytaheikponfmdiaa.M
attribute [local go_sem] max2_int min2_int max_two min_two max_three min_three max_four min_four
set_option linter.unusedVariables false
set_option linter.unusedSimpArgs false
theorem reps_one_string (W : World) (base : Nat) (ok : Nat → Prop) (s : ByteArray) : Reps (Kd.string.M W base ok) Kd.string.sz [s] [.string s] := reps_str s W base ok
theorem letter_str (q : Nat) (h : q < 3) : strOfNums [48 + (q : Int)] = letter q := by rw [dig_str q (by omega), letter_dig]
set_option maxRecDepth 100000 in
set_option maxHeartbeats 4000000 in
theorem specWords (d n : Nat) (w : World) (hd : d ≤ 3) (hn : n ≤ 8) : Calls Try.prog 128 #[.int .i64 (d : Int), .int .i64 (n : Int)] w fun e w' => ∃ v : Value, e = .returned v ∧ Kd.R Kd.string 9 w' w.heap.size (fun _ => True) v (wordsN d n) ∧ Below w.heap.size w w' := by
  have HB := Aside0.mk (Below.refl w.heap.size w)
  go_enter Try.func128, Try.ntmps128
  go_wp2_with (first | ((with_reducible refine gate_dst (N := 9) rfl ?_); refine Kd.R_lit (Kd.string) _ 9 ?hg (N := 9) ?hd (xs := ([⟨#[]⟩] : List ByteArray)) (inner := [.string ⟨#[]⟩]) (ok := fun _ => True) (okp := fun _ => True) ?hr ?hp (fun _ hk => hk) trivial (Below.refl _ _) (Nat.le_refl _) (by simp) ?_; (case hd => rfl); (case hg => rfl); (case hr => first | (go_simp; done) | (go_simp; rfl)); (case hp => exact reps_one_string _ _ _ _); intro v1 w1 ho hb hg_ hnew_; clear hg_ hnew_; have HO := Aside0.mk (Kd.R_lower ho (below_size (by repeat (first | (with_reducible first | exact HB.out | apply below_alloc | apply pw_below_drewN | apply below_drew1) | exact HB.out)))); clear ho; have hn_ := Aside0.mk (below_step (by repeat (first | (with_reducible first | exact HB.out | apply below_alloc | apply pw_below_drewN | apply below_drew1) | exact HB.out)) hb); clear HB hb; have HB := hn_; clear hn_))
  go_loopw [1, 5] (fun x y w' => ∃ m : Nat, m ≤ n ∧ x = .int .i64 (m : Int) ∧ Aside0 (Kd.R Kd.string 9 w' w.heap.size (fun _ => True) y (wordsN d (n - m))) ∧ Aside0 (Below w.heap.size w w')) (fun x _ _ => (intOf x).toNat)
  case atStart => exact ⟨n, Nat.le_refl _, rfl, ⟨by rw [Nat.sub_self]; exact HO.out⟩, HB⟩
  case round =>
    clear HO HB
    obtain ⟨m, hm, rfl, HO, HB⟩ := hrel
    obtain ⟨wo, rfl⟩ : ∃ wo : World, wo = wr := ⟨_, rfl⟩
    obtain ⟨Ao, co, eo⟩ := Kd.R_slice HO.out
    subst eo
    by_cases hlt : 0 < m
    · obtain ⟨ws, hws⟩ : ∃ ws, ws = wordsN d (n - m) := ⟨_, rfl⟩
      have hwl : ws.length ≤ 6561 := by rw [hws]; exact wordsN_le hd (by omega)
      rw [← hws] at HO
      have HWS := Aside0.mk hws
      rw [← hws]
      clear hws
      go_wp2_with (first | ((with_reducible refine gate_dst (N := 14) rfl ?_); refine Kd.R_lit (Kd.string) _ 9 ?hg (N := 14) ?hd (xs := ([] : List ByteArray)) (inner := []) (ok := fun _ => True) (okp := fun _ => True) ?hr ?hp (fun _ hk => hk) trivial (Below.refl _ _) (Nat.le_refl _) (by simp) ?_; (case hd => rfl); (case hg => rfl); (case hr => first | (go_simp; done) | (go_simp; rfl)); (case hp => exact Reps.none _ _); intro v1 w1 ho hb hg_ hnew_; clear hg_ hnew_; have n1_ := Aside0.mk (Kd.R_mono (Kd.R_elder (by (with_reducible repeat (first | apply Kd.R_alloc | apply Kd.R_drewN | apply Kd.R_drew | apply Kd.C_alloc | apply Kd.C_drewN | apply Kd.C_drew)); exact HO.out) ho hb) (fun _ hk => hk.2)); have n2_ := Aside0.mk (Kd.R_lower (Kd.R_mono (Kd.R_newR ho (by (with_reducible repeat (first | apply Kd.R_alloc | apply Kd.R_drewN | apply Kd.R_drew | apply Kd.C_alloc | apply Kd.C_drewN | apply Kd.C_drew)); exact HO.out)) (fun _ hk => hk.2)) (below_size (by repeat (first | (with_reducible first | exact HB.out | apply below_alloc | apply pw_below_drewN | apply below_drew1) | exact HB.out)))); clear HO ho; have HO := n1_; have HN := n2_; clear n1_ n2_; have hn_ := Aside0.mk (below_step (by repeat (first | (with_reducible first | exact HB.out | apply below_alloc | apply pw_below_drewN | apply below_drew1) | exact HB.out)) hb); clear HB hb; have HB := hn_; clear hn_))
      go_loopw [6, 7] (fun y i w' => ∃ j : Nat, j ≤ ws.length ∧ i = .int .i64 (j : Int) ∧ Aside0 (Kd.R Kd.string 9 w' w.heap.size (fun k_ => some k_ ≠ (Value.slice Ao ws.length co).ownBlock) y (nextWords d (ws.take j))) ∧ Aside0 (Kd.R Kd.string 9 w' w.heap.size (fun k_ => some k_ ≠ y.ownBlock) (.slice Ao ws.length co) ws) ∧ Aside0 (Below w.heap.size w w')) (fun _ i _ => ws.length - (intOf i).toNat)
      case atStart => exact ⟨0, Nat.zero_le _, rfl, HN, HO, HB⟩
      case round =>
        clear HO HN HB
        obtain ⟨j, hj, rfl, HN, HO, HB⟩ := hrel
        obtain ⟨wi, rfl⟩ : ∃ wi : World, wi = wr := ⟨_, rfl⟩
        by_cases hjl : j < ws.length
        · go_wp2
          obtain ⟨ad, ea, hx⟩ := Kd.at_string (Kd.R_reads' HO.out).2.2 (j : Int) (by omega) (by omega)
          cases ea
          clear hx
          go_loopw [6, 8] (fun y i w' => ∃ q : Nat, q ≤ d ∧ i = .int .i64 (q : Int) ∧ Aside0 (Kd.R Kd.string 9 w' w.heap.size (fun k_ => some k_ ≠ (Value.slice (some ad) ws.length co).ownBlock) y (makingW d ws j q)) ∧ Aside0 (Kd.R Kd.string 9 w' w.heap.size (fun k_ => some k_ ≠ y.ownBlock) (.slice (some ad) ws.length co) ws) ∧ Aside0 (Below w.heap.size w w')) (fun _ i _ => d - (intOf i).toNat)
          case atStart => exact ⟨0, Nat.zero_le _, rfl, ⟨by rw [makingW_zero]; exact HN.out⟩, HO, HB⟩
          case round =>
            clear HO HN HB
            obtain ⟨q, hq, rfl, HN, HO, HB⟩ := hrel
            by_cases hqd : q < d
            · have hlen := Aside0.mk (makingW_le (d := d) hd hwl j q (by omega))
              obtain ⟨ad', ea, hx⟩ := Kd.at_string (Kd.R_reads' HO.out).2.2 (j : Int) (by omega) (by omega)
              cases ea
              obtain ⟨s, hs⟩ : ∃ s, s = rdOf ByteArray.empty ws (j : Int) := ⟨_, rfl⟩
              rw [← hs] at hx
              have HS := Aside0.mk (show ws.getD j ByteArray.empty = s from hs.symm)
              have hss : s.size ≤ 8 := by rw [hs, wordsN_size (n := n - m) (d := d) (by rw [← HWS.out]; exact getD_mem hjl)]; omega
              clear hs
              have hsz : (9223372036854775807 < s.size + (strOfNums [48 + (q : Int)]).size) = False := eq_false (Nat.not_lt.2 (show s.size + 1 ≤ 9223372036854775807 by omega))
              clear hss
              go_wp2
              have hx1 : wr.drew.cell? (ad.add j) = some (.string s) := hx
              have n0_ := Aside0.mk (Kd.R_drew HN.out)
              have n1_ := Aside0.mk (Kd.R_drew HO.out)
              have n2_ := Aside0.mk (below_drew1 HB.out)
              clear HN HO HB hx
              have HN := n0_
              have HO := n1_
              have HB := n2_
              clear n0_ n1_ n2_
              have hw32 : IntKind.i64.wrap (48 + (q : Int)) = 48 + q := IntWalk.i64_in _ (by omega)
              have hw33 : IntKind.u8.wrap (48 + (q : Int)) = 48 + q := u8_small _ (by omega) (by omega)
              refine start_ (n := 14) (S := fun w' => w'.cell? (ad.add j) = some (.string s)) (ds := [11, 12]) #[false, false, false, false, false, false, false, false, false, false, false, false, false, false] (by kernel_rfl) rfl rfl (hx1) (fun hHeld => ?_)
              generalize wr.drew = wd at HN HO HB hHeld hx1 ⊢
              refine pure_ (i := 0) (N := some 26) (v := ?_) (a' := ?_) #[true, false, false, false, false, false, false, false, false, false, false, false, false, false] rfl rfl (by kernel_rfl) (fun _ _ _ h => h) (Or.inl ⟨by rfl, ?_⟩) ?_ ?_
              rotate_left
              · intro w'
                go_simp
                with_reducible rfl
              rotate_left
              · simp only [Act.put, List.setIfInBounds_toArray, List.set_cons_zero, List.set_cons_succ, i64_w, i32_w]
                rfl
              refine pure_ (i := 1) (N := some 27) (v := ?_) (a' := ?_) #[true, true, false, false, false, false, false, false, false, false, false, false, false, false] rfl rfl (by kernel_rfl) (fun _ _ _ h => h) (Or.inl ⟨by rfl, ?_⟩) ?_ ?_
              rotate_left
              · intro w'
                go_simp
                with_reducible rfl
              rotate_left
              · simp only [Act.put, List.setIfInBounds_toArray, List.set_cons_zero, List.set_cons_succ, i64_w, i32_w]
                rfl
              refine pure_ (i := 2) (N := some 28) (v := ?_) (a' := ?_) #[true, true, true, false, false, false, false, false, false, false, false, false, false, false] rfl rfl (by kernel_rfl) (fun _ _ _ h => h) (Or.inl ⟨by rfl, ?_⟩) ?_ ?_
              rotate_left
              · intro w'
                go_simp
                with_reducible rfl
              rotate_left
              · simp only [Act.put, List.setIfInBounds_toArray, List.set_cons_zero, List.set_cons_succ, i64_w, i32_w]
                rfl
              refine pure_ (i := 3) (N := some 29) (v := ?_) (a' := ?_) #[true, true, true, true, false, false, false, false, false, false, false, false, false, false] rfl rfl (by kernel_rfl) (fun _ _ _ h => h) (Or.inl ⟨by rfl, ?_⟩) ?_ ?_
              rotate_left
              · intro w'
                go_simp
                with_reducible rfl
              rotate_left
              · simp only [Act.put, List.setIfInBounds_toArray, List.set_cons_zero, List.set_cons_succ, i64_w, i32_w]
                rfl
              refine pure_ (i := 5) (N := some 31) (v := ?_) (a' := ?_) #[true, true, true, true, false, true, false, false, false, false, false, false, false, false] rfl rfl (by kernel_rfl) (fun _ _ _ h => h) (Or.inl ⟨by rfl, ?_⟩) ?_ ?_
              rotate_left
              · intro w'
                go_simp
                with_reducible rfl
              rotate_left
              · simp only [Act.put, List.setIfInBounds_toArray, List.set_cons_zero, List.set_cons_succ, i64_w, i32_w]
                rfl
              refine pure_ (i := 6) (N := some 32) (v := ?_) (a' := ?_) #[true, true, true, true, false, true, true, false, false, false, false, false, false, false] rfl rfl (by kernel_rfl) (fun _ _ _ h => h) (Or.inl ⟨by rfl, ?_⟩) ?_ ?_
              rotate_left
              · intro w'
                go_simp
                with_reducible rfl
              rotate_left
              · simp only [Act.put, List.setIfInBounds_toArray, List.set_cons_zero, List.set_cons_succ, i64_w, i32_w]
                rfl
              refine pure_ (i := 7) (N := some 33) (v := ?_) (a' := ?_) #[true, true, true, true, false, true, true, true, false, false, false, false, false, false] rfl rfl (by kernel_rfl) (fun _ _ _ h => h) (Or.inl ⟨by rfl, ?_⟩) ?_ ?_
              rotate_left
              · intro w'
                go_simp
                with_reducible rfl
              rotate_left
              · simp only [Act.put, List.setIfInBounds_toArray, List.set_cons_zero, List.set_cons_succ, i64_w, i32_w]
                rfl
              refine take_ (i := 4) (N := some 30) (v := ?_) (a' := ?_) #[true, true, true, true, true, true, true, true, false, false, false, false, false, false] rfl rfl (by kernel_rfl) (fun _ _ _ h => h) (Or.inl ⟨by rfl, ?_⟩) hHeld ?_ ?_
              rotate_left
              · intro w' s0
                go_simp
                with_reducible rfl
              rotate_left
              · simp only [Act.put, List.setIfInBounds_toArray, List.set_cons_zero, List.set_cons_succ, i64_w, i32_w]
                rfl
              refine one_ (i := 8) (N := some 34) #[true, true, true, true, true, true, true, true, true, false, false, false, false, false] rfl rfl (by kernel_rfl) (by decide) (fun K hK => ?_)
              refine value_ (w1 := ?_) (v := ?_) (by rfl) rfl ?_ ?_
              rotate_left 2
              · go_simp
                constructor
                · rfl
                · rfl
              refine hK.out _ _ ((World.cell?_alloc_lt _ _ _ (World.block_lt_of_cell? _ _ hHeld)).trans hHeld) (fun hHeld => ?_)
              clear hK K
              refine norm_ (a' := ?_) ?_ ?_
              rotate_left
              · show Act.put _ (some 34) _ = _
                simp only [Act.put, List.setIfInBounds_toArray, List.set_cons_zero, List.set_cons_succ, i64_w, i32_w]
                rfl
              refine one_ (i := 9) (N := some 35) #[true, true, true, true, true, true, true, true, true, true, false, false, false, false] rfl rfl (by kernel_rfl) (by decide) (fun K hK => ?_)
              have hcv := byte_string wd (48 + (q : Int))
              refine value_ (w1 := ?_) (v := ?_) (by rfl) rfl ?_ ?_
              rotate_left 2
              · go_simp
                constructor
                · rfl
                · rfl
              refine hK.out _ _ (hHeld) (fun hHeld => ?_)
              clear hK K
              refine norm_ (a' := ?_) ?_ ?_
              rotate_left
              · show Act.put _ (some 35) _ = _
                simp only [Act.put, List.setIfInBounds_toArray, List.set_cons_zero, List.set_cons_succ, i64_w, i32_w]
                rfl
              refine pure_ (i := 10) (N := some 36) (v := ?_) (a' := ?_) #[true, true, true, true, true, true, true, true, true, true, true, false, false, false] rfl rfl (by kernel_rfl) (fun _ _ _ h => h) (Or.inl ⟨by rfl, ?_⟩) ?_ ?_
              rotate_left
              · intro w'
                go_simp
                with_reducible rfl
              rotate_left
              · simp only [Act.put, List.setIfInBounds_toArray, List.set_cons_zero, List.set_cons_succ, i64_w, i32_w]
                rfl
              refine last_ (i := 11) (N := some 37) #[true, true, true, true, true, true, true, true, true, true, true, true, false, false] rfl rfl (by kernel_rfl) (by decide) (fun K hK => ?_)
              refine value_ (w1 := ?_) (v := ?_) (by rfl) rfl ?_ ?_
              rotate_left 2
              · go_simp
                constructor
                · rfl
                · rfl
              refine hK.out _ _ ?_
              clear hK K
              refine norm_ (a' := ?_) ?_ ?_
              rotate_left
              · show Act.put _ (some 37) _ = _
                simp only [Act.put, List.setIfInBounds_toArray, List.set_cons_zero, List.set_cons_succ, i64_w, i32_w]
                rfl
              refine last_ (i := 12) (N := some 38) #[true, true, true, true, true, true, true, true, true, true, true, true, true, false] rfl rfl (by kernel_rfl) (by decide) (fun K hK => ?_)
              refine Kd.R_append_step (Kd.string) (w0 := w) w.heap.size (by rfl) (.tmp 26) (.tmp 37) 57 9 (.string ⟨#[]⟩) 16 rfl Try.underlying57 infoString rfl (by decide) (by omega) (u6) (makingW d ws j q) (s ++ strOfNums [48 + (q : Int)]) ([.string (s ++ strOfNums [48 + (q : Int)])]) (fun k_ => some k_ ≠ (Value.slice (some ad) ws.length co).ownBlock) (fun _ => False) rfl (by first | rfl | (show Value.slice (some ⟨_, 0, none⟩) 1 1 = _; simp)) ?aP (fun _ hk => hk.elim) ?aF ?aO ?aB ?aS ?aL ?_
              case aP => exact rfl
              case aF => exact fun k_ hk => Kd.fresh_ok (by (with_reducible repeat (first | apply Kd.R_alloc | apply Kd.R_drewN | apply Kd.R_drew | apply Kd.C_alloc | apply Kd.C_drewN | apply Kd.C_drew)); exact HO.out) k_ hk
              case aO => (with_reducible repeat (first | apply Kd.R_alloc | apply Kd.R_drewN | apply Kd.R_drew | apply Kd.C_alloc | apply Kd.C_drewN | apply Kd.C_drew)); exact HN.out
              case aB => repeat (first | (with_reducible first | exact HB.out | apply below_alloc | apply pw_below_drewN | apply below_drew1) | exact HB.out)
              case aS => exact below_size (by repeat (first | (with_reducible first | exact HB.out | apply below_alloc | apply pw_below_drewN | apply below_drew1) | exact HB.out))
              case aL => have := hlen.out; omega
              intro v1 w1 ho hb hg hat
              have n0_ := Aside0.mk (Kd.R_mono (Kd.R_after (ok := fun _ => True) (by (with_reducible repeat (first | apply Kd.R_alloc | apply Kd.R_drewN | apply Kd.R_drew | apply Kd.C_alloc | apply Kd.C_drewN | apply Kd.C_drew)); exact Kd.R_mono HO.out (fun _ hk => ⟨trivial, hk⟩)) hg hat) (fun _ hk => hk.2))
              have n1_ := Aside0.mk hb
              have n2_ := Aside0.mk ho
              clear HO HN HB ho hb hg hat
              have HO := n0_
              have HB := n1_
              have HN := n2_
              clear n0_ n1_ n2_
              refine hK.out _ _ ?_
              clear hK K
              refine norm_ (a' := ?_) ?_ ?_
              rotate_left
              · show Act.put _ (some 38) _ = _
                simp only [Act.put, List.setIfInBounds_toArray, List.set_cons_zero, List.set_cons_succ, i64_w, i32_w]
                rfl
              refine pure_ (i := 13) (N := some 6) (v := ?_) (a' := ?_) #[true, true, true, true, true, true, true, true, true, true, true, true, true, true] rfl rfl (by kernel_rfl) (fun _ _ _ h => h) (Or.inl ⟨by rfl, ?_⟩) ?_ ?_
              rotate_left
              · intro w'
                go_simp
                with_reducible rfl
              rotate_left
              · simp only [Act.put, List.setIfInBounds_toArray, List.set_cons_zero, List.set_cons_succ, i64_w, i32_w]
                rfl
              refine done_ (by kernel_rfl) ?_
              go_wp2
              go_roundw
              case rel => exact ⟨q + 1, by omega, by go_num, ⟨by rw [makingW_next, HS.out, ← letter_str q (by omega)]; exact HN.out⟩, HO, HB⟩
              case measure => simp [intOf]; omega
            · obtain rfl : q = d := by omega
              go_wp2
              go_roundw
              case rel => exact ⟨j + 1, by omega, by go_num, ⟨by rw [← makingW_end _ _ _ hjl]; exact HN.out⟩, HO, HB⟩
              case measure => simp [intOf]; omega
        · obtain rfl : j = ws.length := by omega
          go_wp2
          go_roundw
          case rel => exact ⟨m - 1, by omega, by first | go_num | (congr 1; omega), ⟨by rw [show n - (m - 1) = n - m + 1 by omega, wordsN, ← HWS.out]; rw [List.take_length] at HN; exact Kd.R_mono HN.out (fun _ _ => trivial)⟩, HB⟩
          case measure => simp [intOf]; omega
    · obtain rfl : m = 0 := by omega
      go_wp2
      go_ret
      exact ⟨_, rfl, HO.out, HB.out⟩
/-- The same, as a row of one's own. -/
theorem specWordsS (d n : Nat) (w : World) (hd : d ≤ 3) (hn : n ≤ 8) : Calls Try.prog 128 #[.int .i64 (d : Int), .int .i64 (n : Int)] w fun e w' => ∃ A c, e = .returned (.slice A (wordsN d n).length c) ∧ Sep w w' [rowS A c (wordsN d n)] :=
  (specWords d n w hd hn).mono fun e w' h => by
    obtain ⟨v, he, hR, hb⟩ := h
    obtain ⟨A, c, rfl⟩ := Kd.R_slice hR
    exact ⟨A, c, he, Sep.one hb (Kd.R_lower hR (Nat.zero_le _)) fun k hk => Kd.R_base hR k hk⟩
end Go.Proofs.Ytaheikponfmdiaa.H

