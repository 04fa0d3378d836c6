/- What the program's shuffleNumber and the reference's l03Number return: proved by walking their code. Conditions: words of at most 16 letters. -/
import Derived.Test.YtaheikponfmdiaaKBase
import Derived.Test.YtaheikponfmdiaaHShufMath
import Derived.Lib.IndexBytes
namespace Go.Proofs.Ytaheikponfmdiaa.H
open Go.RowKit Go.Proofs.YtaheikponfmdiaaW.PrintWords Go.Proofs.YtaheikponfmdiaaW.PrintLast Go.Proofs.YtaheikponfmdiaaW.PrintMore Go.Proofs.Ytaheikponfmdiaa.M
attribute [local go_sem] max2_int min2_int max_two min_two max_three min_three max_four min_four
set_option linter.unusedVariables false
set_option linter.unusedSimpArgs false

theorem infoInt64 : (Try.prog.info? 2).map (fun i => (i.zero, i.size, i.bytes)) = some (some (.int .i64 0), 1, 8) := by kernel_rfl
theorem bl_at (s : ByteArray) (k : Nat) (h : k < s.size) : (bl s).getD k 0 = s[k] := by
  rw [List.getD_eq_getElem?_getD, List.getElem?_eq_getElem (by rw [bl_len]; exact h)]; rfl
theorem byte_eq (s t : ByteArray) (k j : Nat) (hk : k < s.size) (hj : j < t.size) : ((s[k].toNat : Int) = (t[j].toNat : Int)) ↔ (bl s).getD k 0 = (bl t).getD j 0 := by
  rw [bl_at s k hk, bl_at t j hj, ← UInt8.toNat_inj]; omega

theorem byteCases (u v : ByteArray) (k q : Nat) (hk : k < u.size) (cu : Int) (hcu : ∀ h : k < u.size, ((u[k]'h).toNat : Int) = cu) :
    (∃ _ : q < v.size, ∃ cv : Int, (∀ h : q < v.size, ((v[q]'h).toNat : Int) = cv) ∧ (cu == cv) = true ∧ Hid (q < (bl v).length ∧ (bl u).getD k 0 = (bl v).getD q 0)) ∨
    (∃ _ : q < v.size, ∃ cv : Int, (∀ h : q < v.size, ((v[q]'h).toNat : Int) = cv) ∧ (cu == cv) = false ∧ Hid (¬ (q < (bl v).length ∧ (bl u).getD k 0 = (bl v).getD q 0))) ∨
    (¬ q < v.size ∧ Hid (¬ (q < (bl v).length ∧ (bl u).getD k 0 = (bl v).getD q 0))) := by
  by_cases hq : q < v.size
  · have hb := byte_eq u v k q hk hq
    rw [hcu hk] at hb
    by_cases he : cu = ((v[q]'hq).toNat : Int)
    · exact .inl ⟨hq, _, fun _ => rfl, by simpa using he, ⟨by rw [bl_len]; exact hq, hb.1 he⟩⟩
    · exact .inr (.inl ⟨hq, _, fun _ => rfl, by simpa using he, fun h => he (hb.2 h.2)⟩)
  · exact .inr (.inr ⟨hq, fun h => hq (by rw [← bl_len]; exact h.1)⟩)

set_option maxRecDepth 100000 in
set_option maxHeartbeats 8000000 in
theorem implShuffleNumber (v w u : ByteArray) (W : World) (hv : v.size ≤ 16) (hw : w.size ≤ 16) (hu : u.size ≤ 16) : Calls Try.prog 88 #[.string v, .string w, .string u] W fun e w' => e = .returned (.int .i64 ((sh (bl v) (bl w) (bl u) : Nat) : Int)) ∧ Below W.heap.size W w' := by
  by_cases hl : v.size + w.size = u.size
  · have HL := Lib.hid hl
    have hne : ((u.size : Int) != (v.size : Int) + (w.size : Int)) = false := by rw [bne_eq_false_iff_eq]; omega
    clear hl
    have HB := Aside0.mk (Below.refl W.heap.size W)
    go_enter Try.func88, Try.ntmps88
    go_wp2_with (first | ((with_reducible refine gate_dst (N := 24) rfl ?_); refine Kd.R_make (Kd.int .i64) _ 2 rfl (N := 24) rfl 136 _ _ rfl ((v.size : Int) + 1) rfl rfl Try.underlying136 (.int .i64 0) 8 infoInt64 rfl (by decide) (by omega) (0) (ok := fun _ => True) (okp := fun _ => True) rfl (fun _ hk => hk) trivial (by omega) (by omega) (Below.refl _ _) (Nat.le_refl _) ?_; intro v1 w1 ho hb hg_ hnew_; clear hg_ hnew_; rw [show ((v.size : Int) + 1).toNat = v.size + 1 by omega] at ho; obtain ⟨g, cap, e1, hgb, hgl, hcl⟩ := Kd.R_form ho (by simp); rw [List.length_replicate] at e1; subst e1; obtain ⟨hx, hf⟩ := Kd.R_celln 0 ho 0 (by omega) (by omega); have HO := Aside0.mk (Kd.R_lower (Kd.R_putn ho 0 1) (below_size (by repeat (first | (with_reducible first | exact HB.out | apply below_alloc | apply pw_below_drewN | apply below_drew1) | exact HB.out)))); have HG := Aside0.mk (show W.heap.size ≤ g from Nat.le_trans (below_size (by repeat (first | (with_reducible first | exact HB.out | apply below_alloc | apply pw_below_drewN | apply below_drew1) | exact HB.out))) hgb); clear ho hgb hcl; have hn_ := Aside0.mk (below_step (by repeat (first | (with_reducible first | exact HB.out | apply below_alloc | apply pw_below_drewN | apply below_drew1) | exact HB.out)) hb); clear HB hb; have HB := hn_; clear hn_; replace hx : w1.cell? ⟨g, 0, none⟩ = some (.int .i64 (rdOf 0 (List.replicate (v.size + 1) 0) 0)) := hx; replace hf : w1.frozen? ⟨g, 0, none⟩ = false := hf))
    go_loopw [7, 29] (fun y i w' => ∃ k : Nat, k ≤ u.size ∧ i = .int .i64 (k : Int) ∧ Aside0 (Kd.R (Kd.int .i64) 2 w' W.heap.size (fun _ => True) y (rowI (bl v) (bl w) (bl u) k)) ∧ Aside0 (Below W.heap.size W w')) (fun _ i _ => u.size - (intOf i).toNat)
    case atStart => exact ⟨0, Nat.zero_le _, rfl, ⟨by rw [rowI, bl_len]; exact HO.out⟩, ⟨below_set HB.out HG.out⟩⟩
    case round =>
      clear HO HB HG
      obtain ⟨k, hk, rfl, HO, HB⟩ := hrel
      obtain ⟨wo, rfl⟩ : ∃ wo : World, wo = wr := ⟨_, rfl⟩
      obtain ⟨g, cap, e1, hgb, hgl, hcl⟩ := Kd.R_form HO.out (by rw [rowI_length]; omega)
      rw [rowI_length, bl_len] at e1
      subst e1
      clear hgl hcl
      by_cases hku : k < u.size
      · go_wp2_with (first | ((with_reducible refine gate_dst (N := 35) rfl ?_); refine Kd.R_make (Kd.int .i64) _ 2 rfl (N := 35) rfl 136 _ _ rfl ((v.size : Int) + 1) rfl rfl Try.underlying136 (.int .i64 0) 8 infoInt64 rfl (by decide) (by omega) (0) (ok := fun _ => True) (okp := fun _ => True) rfl (fun _ hk => hk) trivial (by omega) (by omega) (Below.refl _ _) (Nat.le_refl _) ?_; intro v1 w1 ho hb hg_ hnew_; clear hg_ hnew_; rw [show ((v.size : Int) + 1).toNat = v.size + 1 by omega] at ho; obtain ⟨g2, cap2, e1, hgb2, hgl2, hcl2⟩ := Kd.R_form ho (by simp); rw [List.length_replicate] at e1; subst e1; have n1_ := Aside0.mk (Kd.R_mono (Kd.R_elder (by (with_reducible repeat (first | apply Kd.R_alloc | apply Kd.R_drewN | apply Kd.R_drew | apply Kd.C_alloc | apply Kd.C_drewN | apply Kd.C_drew)); exact HO.out) ho hb) (fun _ hk => hk.2)); have n2_ := Aside0.mk (Kd.R_lower (Kd.R_mono (Kd.R_newR ho (by (with_reducible repeat (first | apply Kd.R_alloc | apply Kd.R_drewN | apply Kd.R_drew | apply Kd.C_alloc | apply Kd.C_drewN | apply Kd.C_drew)); exact HO.out)) (fun _ hk => hk.2)) (below_size (by repeat (first | (with_reducible first | exact HB.out | apply below_alloc | apply pw_below_drewN | apply below_drew1) | exact HB.out)))); clear HO ho hgl2 hcl2; have HO := n1_; have HN := n2_; clear n1_ n2_; have hn_ := Aside0.mk (below_step (by repeat (first | (with_reducible first | exact HB.out | apply below_alloc | apply pw_below_drewN | apply below_drew1) | exact HB.out)) hb); clear HB hb; have HB := hn_; clear hn_))
        obtain ⟨cu, hcu⟩ : ∃ c : Int, ∀ h : k < u.size, ((u[k]'h).toNat : Int) = c := ⟨((u[k]'hku).toNat : Int), fun _ => rfl⟩
        have HG2 := Aside0.mk (show W.heap.size ≤ g2 from Nat.le_trans (Kd.R_base HN.out g2 (by simp [Value.ownBlock])) (Nat.le_refl _))
        clear hgb2
        go_loopw [38] (fun i w' => ∃ q : Nat, q ≤ v.size + 1 ∧ i = .int .i64 (q : Int) ∧ Aside0 (Kd.R (Kd.int .i64) 2 w' W.heap.size (fun k_ => some k_ ≠ (Value.slice (some ⟨g, 0, none⟩) (v.size + 1) cap).ownBlock) (.slice (some ⟨g2, 0, none⟩) (v.size + 1) cap2) (innerI (bl v) (bl w) ((bl u).getD k 0) k (rowI (bl v) (bl w) (bl u) k) q)) ∧ Aside0 (Kd.R (Kd.int .i64) 2 w' W.heap.size (fun k_ => some k_ ≠ (Value.slice (some ⟨g2, 0, none⟩) (v.size + 1) cap2).ownBlock) (.slice (some ⟨g, 0, none⟩) (v.size + 1) cap) (rowI (bl v) (bl w) (bl u) k)) ∧ Aside0 (Below W.heap.size W w')) (fun i _ => v.size + 1 - (intOf i).toNat)
        case atStart => exact ⟨0, Nat.zero_le _, rfl, ⟨by rw [innerI, bl_len]; exact HN.out⟩, HO, HB⟩
        case round =>
          clear HO HB HN
          obtain ⟨q, hq, rfl, HN, HO, HB⟩ := hrel
          by_cases hqv : q < v.size + 1
          · obtain ⟨hx, _⟩ := Kd.R_celln 0 HO.out (q : Int) (by omega) (by omega)
            obtain ⟨hy, hfy⟩ := Kd.R_celln 0 HN.out (q : Int) (by omega) (by omega)
            have hbx := rowI_bound (bl v) (bl w) (bl u) k q
            have hby := innerI_bound (bl v) (bl w) (bl u) ((bl u).getD k 0) k q q (by rw [bl_len]; omega)
            have hbz := innerI_bound (bl v) (bl w) (bl u) ((bl u).getD k 0) k q (q + 1) (by rw [bl_len]; omega)
            have hp := pow_le16 (k := k) (by omega)
            obtain ⟨x, ex⟩ : ∃ x, x = (rowI (bl v) (bl w) (bl u) k).getD q 0 := ⟨_, rfl⟩
            obtain ⟨y, ey⟩ : ∃ y, y = (innerI (bl v) (bl w) ((bl u).getD k 0) k (rowI (bl v) (bl w) (bl u) k) q).getD q 0 := ⟨_, rfl⟩
            obtain ⟨z, ez⟩ : ∃ z, z = (innerI (bl v) (bl w) ((bl u).getD k 0) k (rowI (bl v) (bl w) (bl u) k) q).getD (q + 1) 0 := ⟨_, rfl⟩
            rw [← ex] at hbx
            rw [← ey] at hby
            rw [← ez] at hbz
            have hx0 : 0 ≤ x := hbx.1
            have hx1 : x ≤ 65536 := by omega
            have hy0 : 0 ≤ y := hby.1
            have hy1 : y ≤ 131072 := by omega
            have hz0 : 0 ≤ z := hbz.1
            have hz1 : z ≤ 131072 := by omega
            clear hbx hby hbz hp
            replace hx : wr.cell? ⟨g, q, none⟩ = some (.int .i64 x) := by rw [ex]; exact hx
            replace hy : wr.cell? ⟨g2, q, none⟩ = some (.int .i64 y) := by rw [ey]; exact hy
            replace hfy : wr.frozen? ⟨g2, q, none⟩ = false := hfy
            have EX := Aside0.mk ex
            have EY := Aside0.mk ey
            have EZ := Aside0.mk ez
            clear ex ey ez
            have hneg : g ≠ g2 := fun e => HO.out.1 g (by simp [Value.ownBlock]) (by rw [e]; simp [Value.ownBlock])
            have hneg2 : g2 ≠ g := Ne.symm hneg
            by_cases hqk : q ≤ k
            · obtain ⟨r, hr⟩ : ∃ r : Nat, k - q = r := ⟨_, rfl⟩
              have hkr : (k : Int) - (q : Int) = (r : Int) := by omega
              have HR := Aside0.mk hr
              clear hr
              rcases byteCases u v k q hku cu hcu with ⟨hqs, cv, hcv, hab, HA⟩ | ⟨hqs, cv, hcv, hab, HA⟩ | ⟨hqs, HA⟩
              all_goals rcases byteCases u w k r hku cu hcu with ⟨hrs, cw, hcw, hac, HC⟩ | ⟨hrs, cw, hcw, hac, HC⟩ | ⟨hrs, HC⟩
              · obtain ⟨hx1y, hfz⟩ := R_cellN HN.out (q + 1) (by omega)
                rw [← EZ.out] at hx1y
                go_wp2
                go_quiet (fail)
                go_wp2
                go_quiet (fail)
                go_wp2
                go_roundw
                case rel => exact ⟨q + 1, by omega, by go_num, ⟨by rw [innerI, stepI_tt HA.out ⟨hqk, by rw [HR.out]; exact HC.out⟩, ← EX.out, ← EY.out, ← EZ.out]; exact (R_putN (Kd.R_drewN (R_putN (by (with_reducible repeat (first | apply Kd.R_drewN)); exact HN.out) (q + 1) _) _) q _)⟩, ⟨(Kd.R_far (p := ⟨g2, q, none⟩) (Kd.R_drewN (Kd.R_far (p := ⟨g2, q + 1, none⟩) (by (with_reducible repeat (first | apply Kd.R_drewN)); exact HO.out) (fun k_ hk e => hk (by rw [e]; simp [Value.ownBlock])) _) _) (fun k_ hk e => hk (by rw [e]; simp [Value.ownBlock])) _)⟩, ⟨(below_set (pw_below_drewN (below_set (by repeat (first | apply pw_below_drewN | exact HB.out)) HG2.out) _) HG2.out)⟩⟩
                case measure => simp [intOf]; omega
              · obtain ⟨hx1y, hfz⟩ := R_cellN HN.out (q + 1) (by omega)
                rw [← EZ.out] at hx1y
                go_wp2
                go_quiet (fail)
                go_wp2
                go_quiet (fail)
                go_wp2
                go_roundw
                case rel => exact ⟨q + 1, by omega, by go_num, ⟨by rw [innerI, stepI_tf HA.out (fun h => HC.out (by rw [← HR.out]; exact h.2)), ← EX.out, ← EZ.out]; exact (Kd.R_drewN (R_putN (by (with_reducible repeat (first | apply Kd.R_drewN)); exact HN.out) (q + 1) _) _)⟩, ⟨(Kd.R_drewN (Kd.R_far (p := ⟨g2, q + 1, none⟩) (by (with_reducible repeat (first | apply Kd.R_drewN)); exact HO.out) (fun k_ hk e => hk (by rw [e]; simp [Value.ownBlock])) _) _)⟩, ⟨(pw_below_drewN (below_set (by repeat (first | apply pw_below_drewN | exact HB.out)) HG2.out) _)⟩⟩
                case measure => simp [intOf]; omega
              · obtain ⟨hx1y, hfz⟩ := R_cellN HN.out (q + 1) (by omega)
                rw [← EZ.out] at hx1y
                have hrd : decide (r < w.size) = false := by simpa using hrs
                go_wp2
                go_quiet (fail)
                go_wp2
                go_quiet (fail)
                go_wp2
                go_roundw
                case rel => exact ⟨q + 1, by omega, by go_num, ⟨by rw [innerI, stepI_tf HA.out (fun h => HC.out (by rw [← HR.out]; exact h.2)), ← EX.out, ← EZ.out]; exact (Kd.R_drewN (R_putN (by (with_reducible repeat (first | apply Kd.R_drewN)); exact HN.out) (q + 1) _) _)⟩, ⟨(Kd.R_drewN (Kd.R_far (p := ⟨g2, q + 1, none⟩) (by (with_reducible repeat (first | apply Kd.R_drewN)); exact HO.out) (fun k_ hk e => hk (by rw [e]; simp [Value.ownBlock])) _) _)⟩, ⟨(pw_below_drewN (below_set (by repeat (first | apply pw_below_drewN | exact HB.out)) HG2.out) _)⟩⟩
                case measure => simp [intOf]; omega
              · go_wp2
                go_quiet (fail)
                go_wp2
                go_quiet (fail)
                go_wp2
                go_roundw
                case rel => exact ⟨q + 1, by omega, by go_num, ⟨by rw [innerI, stepI_ft HA.out ⟨hqk, by rw [HR.out]; exact HC.out⟩, ← EX.out, ← EY.out]; exact (R_putN (by (with_reducible repeat (first | apply Kd.R_drewN)); exact HN.out) q _)⟩, ⟨(Kd.R_far (p := ⟨g2, q, none⟩) (by (with_reducible repeat (first | apply Kd.R_drewN)); exact HO.out) (fun k_ hk e => hk (by rw [e]; simp [Value.ownBlock])) _)⟩, ⟨(below_set (by repeat (first | apply pw_below_drewN | exact HB.out)) HG2.out)⟩⟩
                case measure => simp [intOf]; omega
              · go_wp2
                go_quiet (fail)
                go_wp2
                go_quiet (fail)
                go_wp2
                go_roundw
                case rel => exact ⟨q + 1, by omega, by go_num, ⟨by rw [innerI, stepI_ff HA.out (fun h => HC.out (by rw [← HR.out]; exact h.2))]; exact (by (with_reducible repeat (first | apply Kd.R_drewN)); exact HN.out)⟩, ⟨(by (with_reducible repeat (first | apply Kd.R_drewN)); exact HO.out)⟩, ⟨(by repeat (first | apply pw_below_drewN | exact HB.out))⟩⟩
                case measure => simp [intOf]; omega
              · have hrd : decide (r < w.size) = false := by simpa using hrs
                go_wp2
                go_quiet (fail)
                go_wp2
                go_quiet (fail)
                go_wp2
                go_roundw
                case rel => exact ⟨q + 1, by omega, by go_num, ⟨by rw [innerI, stepI_ff HA.out (fun h => HC.out (by rw [← HR.out]; exact h.2))]; exact (by (with_reducible repeat (first | apply Kd.R_drewN)); exact HN.out)⟩, ⟨(by (with_reducible repeat (first | apply Kd.R_drewN)); exact HO.out)⟩, ⟨(by repeat (first | apply pw_below_drewN | exact HB.out))⟩⟩
                case measure => simp [intOf]; omega
              · have hqd : decide (q < v.size) = false := by simpa using hqs
                go_wp2
                go_quiet (fail)
                go_wp2
                go_quiet (fail)
                go_wp2
                go_roundw
                case rel => exact ⟨q + 1, by omega, by go_num, ⟨by rw [innerI, stepI_ft HA.out ⟨hqk, by rw [HR.out]; exact HC.out⟩, ← EX.out, ← EY.out]; exact (R_putN (by (with_reducible repeat (first | apply Kd.R_drewN)); exact HN.out) q _)⟩, ⟨(Kd.R_far (p := ⟨g2, q, none⟩) (by (with_reducible repeat (first | apply Kd.R_drewN)); exact HO.out) (fun k_ hk e => hk (by rw [e]; simp [Value.ownBlock])) _)⟩, ⟨(below_set (by repeat (first | apply pw_below_drewN | exact HB.out)) HG2.out)⟩⟩
                case measure => simp [intOf]; omega
              · have hqd : decide (q < v.size) = false := by simpa using hqs
                go_wp2
                go_quiet (fail)
                go_wp2
                go_quiet (fail)
                go_wp2
                go_roundw
                case rel => exact ⟨q + 1, by omega, by go_num, ⟨by rw [innerI, stepI_ff HA.out (fun h => HC.out (by rw [← HR.out]; exact h.2))]; exact (by (with_reducible repeat (first | apply Kd.R_drewN)); exact HN.out)⟩, ⟨(by (with_reducible repeat (first | apply Kd.R_drewN)); exact HO.out)⟩, ⟨(by repeat (first | apply pw_below_drewN | exact HB.out))⟩⟩
                case measure => simp [intOf]; omega
              · have hqd : decide (q < v.size) = false := by simpa using hqs
                have hrd : decide (r < w.size) = false := by simpa using hrs
                go_wp2
                go_quiet (fail)
                go_wp2
                go_quiet (fail)
                go_wp2
                go_roundw
                case rel => exact ⟨q + 1, by omega, by go_num, ⟨by rw [innerI, stepI_ff HA.out (fun h => HC.out (by rw [← HR.out]; exact h.2))]; exact (by (with_reducible repeat (first | apply Kd.R_drewN)); exact HN.out)⟩, ⟨(by (with_reducible repeat (first | apply Kd.R_drewN)); exact HO.out)⟩, ⟨(by repeat (first | apply pw_below_drewN | exact HB.out))⟩⟩
                case measure => simp [intOf]; omega
            · rcases byteCases u v k q hku cu hcu with ⟨hqs, cv, hcv, hab, HA⟩ | ⟨hqs, cv, hcv, hab, HA⟩ | ⟨hqs, HA⟩
              · obtain ⟨hx1y, hfz⟩ := R_cellN HN.out (q + 1) (by omega)
                rw [← EZ.out] at hx1y
                have hkd : decide (0 ≤ (k : Int) - (q : Int)) = false := by simp; omega
                have hkd2 : decide (q ≤ k) = false := by simpa using hqk
                have hkd3 : (k : Int) - (q : Int) < 0 := by omega
                go_wp2
                go_quiet (fail)
                go_wp2
                go_quiet (fail)
                go_wp2
                go_roundw
                case rel => exact ⟨q + 1, by omega, by go_num, ⟨by rw [innerI, stepI_tf HA.out (fun h => hqk h.1), ← EX.out, ← EZ.out]; exact (Kd.R_drewN (R_putN (by (with_reducible repeat (first | apply Kd.R_drewN)); exact HN.out) (q + 1) _) _)⟩, ⟨(Kd.R_drewN (Kd.R_far (p := ⟨g2, q + 1, none⟩) (by (with_reducible repeat (first | apply Kd.R_drewN)); exact HO.out) (fun k_ hk e => hk (by rw [e]; simp [Value.ownBlock])) _) _)⟩, ⟨(pw_below_drewN (below_set (by repeat (first | apply pw_below_drewN | exact HB.out)) HG2.out) _)⟩⟩
                case measure => simp [intOf]; omega
              · have hkd : decide (0 ≤ (k : Int) - (q : Int)) = false := by simp; omega
                have hkd2 : decide (q ≤ k) = false := by simpa using hqk
                have hkd3 : (k : Int) - (q : Int) < 0 := by omega
                go_wp2
                go_quiet (fail)
                go_wp2
                go_quiet (fail)
                go_wp2
                go_roundw
                case rel => exact ⟨q + 1, by omega, by go_num, ⟨by rw [innerI, stepI_ff HA.out (fun h => hqk h.1)]; exact (by (with_reducible repeat (first | apply Kd.R_drewN)); exact HN.out)⟩, ⟨(by (with_reducible repeat (first | apply Kd.R_drewN)); exact HO.out)⟩, ⟨(by repeat (first | apply pw_below_drewN | exact HB.out))⟩⟩
                case measure => simp [intOf]; omega
              · have hqd : decide (q < v.size) = false := by simpa using hqs
                have hkd : decide (0 ≤ (k : Int) - (q : Int)) = false := by simp; omega
                have hkd2 : decide (q ≤ k) = false := by simpa using hqk
                have hkd3 : (k : Int) - (q : Int) < 0 := by omega
                go_wp2
                go_quiet (fail)
                go_wp2
                go_quiet (fail)
                go_wp2
                go_roundw
                case rel => exact ⟨q + 1, by omega, by go_num, ⟨by rw [innerI, stepI_ff HA.out (fun h => hqk h.1)]; exact (by (with_reducible repeat (first | apply Kd.R_drewN)); exact HN.out)⟩, ⟨(by (with_reducible repeat (first | apply Kd.R_drewN)); exact HO.out)⟩, ⟨(by repeat (first | apply pw_below_drewN | exact HB.out))⟩⟩
                case measure => simp [intOf]; omega
          · have EQ := Aside0.mk (show q = v.size + 1 by omega)
            have hqd : decide ((q : Int) < (v.size : Int) + 1) = false := by simp; omega
            clear hcu cu
            go_wp2
            go_roundw
            case rel => exact ⟨k + 1, by omega, by go_num, ⟨by have h := HN.out; rw [EQ.out] at h; rw [rowI, bl_len]; exact Kd.R_mono h (fun _ _ => trivial)⟩, HB⟩
            case measure => simp [intOf]; omega
      · obtain rfl : k = u.size := by omega
        have hx : wo.cell? ⟨g, v.size, none⟩ = some (.int .i64 (rdOf 0 (rowI (bl v) (bl w) (bl u) u.size) (v.size : Int))) := (Kd.R_celln 0 HO.out (v.size : Int) (by omega) (by omega)).1
        have he : Hid (rdOf 0 (rowI (bl v) (bl w) (bl u) u.size) (v.size : Int) = ((sh (bl v) (bl w) (bl u) : Nat) : Int)) := by
          have := row_last (bl v) (bl w) (bl u) (by rw [bl_len, bl_len, bl_len]; exact HL.out)
          rw [bl_len, bl_len] at this
          exact this
        go_wp2
        go_ret
        exact ⟨ret_int he.out, HB.out⟩
  · have hz := Lib.hid (show ((sh (bl v) (bl w) (bl u) : Nat) : Int) = 0 by rw [sh_len _ _ _ (by rw [bl_len, bl_len, bl_len]; exact hl)]; rfl)
    have hne : ((u.size : Int) != (v.size : Int) + (w.size : Int)) = true := by rw [bne_iff_ne]; omega
    clear hl
    go_enter Try.func88, Try.ntmps88
    go_wp2
    go_ret
    exact ⟨ret_int hz.out.symm, Below.refl _ _⟩
theorem cut_size (s : ByteArray) : (s.extract 1 s.size).size = s.size - 1 := by rw [ByteArray.size_extract]; omega
theorem cut_bl (s : ByteArray) : bl (s.extract 1 s.size) = (bl s).drop 1 := Lib.extract_to_end s 1
theorem sh_step (u v w : ByteArray) (h : 0 < u.size) : sh (bl v) (bl w) (bl u) = (if 0 < (bl v).length ∧ (bl u).getD 0 0 = (bl v).getD 0 0 then sh (bl (v.extract 1 v.size)) (bl w) (bl (u.extract 1 u.size)) else 0) + (if 0 < (bl w).length ∧ (bl u).getD 0 0 = (bl w).getD 0 0 then sh (bl v) (bl (w.extract 1 w.size)) (bl (u.extract 1 u.size)) else 0) := by
  rw [cut_bl, cut_bl, cut_bl]
  cases hu : bl u with
  | nil => rw [← bl_len, hu] at h; simp at h
  | cons c u' =>
    rw [sh_cons]
    congr 1
    · cases bl v with
      | nil => simp
      | cons a v' => simp [eq_comm]
    · cases bl w with
      | nil => simp
      | cons b w' => simp [eq_comm]

set_option maxRecDepth 100000 in
set_option maxHeartbeats 8000000 in
theorem specNumber : ∀ (n : Nat) (v w u : ByteArray) (W : World), u.size = n → v.size ≤ 16 → w.size ≤ 16 → n ≤ 16 → Calls Try.prog 83 #[.string v, .string w, .string u] W fun e w' => e = .returned (.int .i64 ((sh (bl v) (bl w) (bl u) : Nat) : Int)) ∧ ∃ m, w' = W.drewN m := by
  intro n
  induction n with
  | zero =>
    intro v w u W hu hv hw hn
    by_cases hl : v.size + w.size = u.size
    · have hz := Lib.hid (show (1 : Int) = ((sh (bl v) (bl w) (bl u) : Nat) : Int) by
        have e1 : bl u = [] := List.eq_nil_of_length_eq_zero (by rw [bl_len]; omega)
        have e2 : bl v = [] := List.eq_nil_of_length_eq_zero (by rw [bl_len]; omega)
        have e3 : bl w = [] := List.eq_nil_of_length_eq_zero (by rw [bl_len]; omega)
        rw [e1, e2, e3]; rfl)
      have hne : ((v.size : Int) + (w.size : Int) != (u.size : Int)) = false := by rw [bne_eq_false_iff_eq]; omega
      have hu0 : ((u.size : Int) == 0) = true := by rw [beq_iff_eq]; omega
      clear hl hu hn
      go_enter Try.func83, Try.ntmps83
      go_wp2
      go_ret
      exact ⟨ret_int hz.out, 0, rfl⟩
    · have hz := Lib.hid (show (0 : Int) = ((sh (bl v) (bl w) (bl u) : Nat) : Int) by rw [sh_len _ _ _ (by rw [bl_len, bl_len, bl_len]; exact hl)]; rfl)
      have hne : ((v.size : Int) + (w.size : Int) != (u.size : Int)) = true := by rw [bne_iff_ne]; omega
      clear hl hu hn
      go_enter Try.func83, Try.ntmps83
      go_wp2
      go_ret
      exact ⟨ret_int hz.out, 0, rfl⟩
  | succ n ih =>
    intro v w u W hu hv hw hn
    by_cases hl : ¬ (v.size + w.size = u.size)
    · have hz := Lib.hid (show (0 : Int) = ((sh (bl v) (bl w) (bl u) : Nat) : Int) by rw [sh_len _ _ _ (by rw [bl_len, bl_len, bl_len]; exact hl)]; rfl)
      have hne : ((v.size : Int) + (w.size : Int) != (u.size : Int)) = true := by rw [bne_iff_ne]; omega
      clear hl hu hn ih
      go_enter Try.func83, Try.ntmps83
      go_wp2
      go_ret
      exact ⟨ret_int hz.out, 0, rfl⟩
    replace hl := Decidable.not_not.1 hl
    have hne : ((v.size : Int) + (w.size : Int) != (u.size : Int)) = false := by rw [bne_eq_false_iff_eq]; omega
    have hu0 : ((u.size : Int) == 0) = false := by rw [beq_eq_false_iff_ne]; omega
    have hup : 0 < u.size := by omega
    obtain ⟨x, hX⟩ : ∃ x, x = ((sh (bl (v.extract 1 v.size)) (bl w) (bl (u.extract 1 u.size)) : Nat) : Int) := ⟨_, rfl⟩
    obtain ⟨y, hY⟩ : ∃ y, y = ((sh (bl v) (bl (w.extract 1 w.size)) (bl (u.extract 1 u.size)) : Nat) : Int) := ⟨_, rfl⟩
    have hb : ∀ a b : List UInt8, sh a b (bl (u.extract 1 u.size)) ≤ 65536 := fun a b => by
      refine Nat.le_trans (sh_le _ _ _) ?_
      rw [bl_len]
      exact Nat.pow_le_pow_right (n := 2) (by omega) (show (u.extract 1 u.size).size ≤ 16 by rw [cut_size]; omega)
    have hx0 : 0 ≤ x := by omega
    have hx1 : x ≤ 65536 := by have := hb (bl (v.extract 1 v.size)) (bl w); omega
    have hy0 : 0 ≤ y := by omega
    have hy1 : y ≤ 65536 := by have := hb (bl v) (bl (w.extract 1 w.size)); omega
    clear hb
    obtain ⟨cu, hcu⟩ : ∃ c : Int, ∀ h : 0 < u.size, ((u[0]'h).toNat : Int) = c := ⟨((u[0]'hup).toNat : Int), fun _ => rfl⟩
    have HU := Lib.hid hu
    have HL := Lib.hid hl
    clear hl
    rcases byteCases u v 0 0 hup cu hcu with ⟨h1, cv, hcv, hab, HA⟩ | ⟨h1, cv, hcv, hab, HA⟩ | ⟨h1, HA⟩
    all_goals rcases byteCases u w 0 0 hup cu hcu with ⟨h2, cw, hcw, hac, HC⟩ | ⟨h2, cw, hcw, hac, HC⟩ | ⟨h2, HC⟩
    · have c1 := fun W => ih (v.extract 1 v.size) w (u.extract 1 u.size) W (by rw [cut_size]; omega) (by rw [cut_size]; omega) hw (by omega)
      rw [← hX] at c1
      have c2 := fun W => ih v (w.extract 1 w.size) (u.extract 1 u.size) W (by rw [cut_size]; omega) hv (by rw [cut_size]; omega) (by omega)
      rw [← hY] at c2
      have hfin := Lib.hid (show x + y = ((sh (bl v) (bl w) (bl u) : Nat) : Int) by rw [sh_step u v w (by omega), if_pos HA.out, if_pos HC.out]; omega)
      clear hX hY hu hn ih
      go_enter Try.func83, Try.ntmps83
      go_wp2
      go_quiet (fail)
      go_wp2
      go_quiet ((go_at_call 83; exact quiet_add (c1 _)))
      go_wp2
      go_quiet (fail)
      go_wp2
      go_quiet ((go_at_call 83; exact quiet_add (c2 _)))
      go_wp2
      go_ret
      exact ⟨ret_int hfin.out, by repeat (first | exact drawn_none _ | refine drawn_step ?_)⟩
    · have c1 := fun W => ih (v.extract 1 v.size) w (u.extract 1 u.size) W (by rw [cut_size]; omega) (by rw [cut_size]; omega) hw (by omega)
      rw [← hX] at c1
      have hfin := Lib.hid (show x = ((sh (bl v) (bl w) (bl u) : Nat) : Int) by rw [sh_step u v w (by omega), if_pos HA.out, if_neg HC.out]; omega)
      clear hX hY hu hn ih
      go_enter Try.func83, Try.ntmps83
      go_wp2
      go_quiet (fail)
      go_wp2
      go_quiet ((go_at_call 83; exact quiet_add (c1 _)))
      go_wp2
      go_quiet (fail)
      go_wp2
      go_ret
      exact ⟨ret_int hfin.out, by repeat (first | exact drawn_none _ | refine drawn_step ?_)⟩
    · have hd2 : decide (0 < w.size) = false := by simpa using h2
      have c1 := fun W => ih (v.extract 1 v.size) w (u.extract 1 u.size) W (by rw [cut_size]; omega) (by rw [cut_size]; omega) hw (by omega)
      rw [← hX] at c1
      have hfin := Lib.hid (show x = ((sh (bl v) (bl w) (bl u) : Nat) : Int) by rw [sh_step u v w (by omega), if_pos HA.out, if_neg HC.out]; omega)
      clear hX hY hu hn ih
      go_enter Try.func83, Try.ntmps83
      go_wp2
      go_quiet (fail)
      go_wp2
      go_quiet ((go_at_call 83; exact quiet_add (c1 _)))
      go_wp2
      go_quiet (fail)
      go_wp2
      go_ret
      exact ⟨ret_int hfin.out, by repeat (first | exact drawn_none _ | refine drawn_step ?_)⟩
    · have c2 := fun W => ih v (w.extract 1 w.size) (u.extract 1 u.size) W (by rw [cut_size]; omega) hv (by rw [cut_size]; omega) (by omega)
      rw [← hY] at c2
      have hfin := Lib.hid (show y = ((sh (bl v) (bl w) (bl u) : Nat) : Int) by rw [sh_step u v w (by omega), if_neg HA.out, if_pos HC.out]; omega)
      clear hX hY hu hn ih
      go_enter Try.func83, Try.ntmps83
      go_wp2
      go_quiet (fail)
      go_wp2
      go_quiet (fail)
      go_wp2
      go_quiet ((go_at_call 83; exact quiet_add (c2 _)))
      go_wp2
      go_ret
      exact ⟨ret_int hfin.out, by repeat (first | exact drawn_none _ | refine drawn_step ?_)⟩
    · have hfin := Lib.hid (show 0 = ((sh (bl v) (bl w) (bl u) : Nat) : Int) by rw [sh_step u v w (by omega), if_neg HA.out, if_neg HC.out]; omega)
      clear hX hY hu hn ih
      go_enter Try.func83, Try.ntmps83
      go_wp2
      go_quiet (fail)
      go_wp2
      go_quiet (fail)
      go_wp2
      go_ret
      exact ⟨ret_int hfin.out, by repeat (first | exact drawn_none _ | refine drawn_step ?_)⟩
    · have hd2 : decide (0 < w.size) = false := by simpa using h2
      have hfin := Lib.hid (show 0 = ((sh (bl v) (bl w) (bl u) : Nat) : Int) by rw [sh_step u v w (by omega), if_neg HA.out, if_neg HC.out]; omega)
      clear hX hY hu hn ih
      go_enter Try.func83, Try.ntmps83
      go_wp2
      go_quiet (fail)
      go_wp2
      go_quiet (fail)
      go_wp2
      go_ret
      exact ⟨ret_int hfin.out, by repeat (first | exact drawn_none _ | refine drawn_step ?_)⟩
    · have hd1 : decide (0 < v.size) = false := by simpa using h1
      have c2 := fun W => ih v (w.extract 1 w.size) (u.extract 1 u.size) W (by rw [cut_size]; omega) hv (by rw [cut_size]; omega) (by omega)
      rw [← hY] at c2
      have hfin := Lib.hid (show y = ((sh (bl v) (bl w) (bl u) : Nat) : Int) by rw [sh_step u v w (by omega), if_neg HA.out, if_pos HC.out]; omega)
      clear hX hY hu hn ih
      go_enter Try.func83, Try.ntmps83
      go_wp2
      go_quiet (fail)
      go_wp2
      go_quiet (fail)
      go_wp2
      go_quiet ((go_at_call 83; exact quiet_add (c2 _)))
      go_wp2
      go_ret
      exact ⟨ret_int hfin.out, by repeat (first | exact drawn_none _ | refine drawn_step ?_)⟩
    · have hd1 : decide (0 < v.size) = false := by simpa using h1
      have hfin := Lib.hid (show 0 = ((sh (bl v) (bl w) (bl u) : Nat) : Int) by rw [sh_step u v w (by omega), if_neg HA.out, if_neg HC.out]; omega)
      clear hX hY hu hn ih
      go_enter Try.func83, Try.ntmps83
      go_wp2
      go_quiet (fail)
      go_wp2
      go_quiet (fail)
      go_wp2
      go_ret
      exact ⟨ret_int hfin.out, by repeat (first | exact drawn_none _ | refine drawn_step ?_)⟩
    · have hd1 : decide (0 < v.size) = false := by simpa using h1
      have hd2 : decide (0 < w.size) = false := by simpa using h2
      have hfin := Lib.hid (show 0 = ((sh (bl v) (bl w) (bl u) : Nat) : Int) by rw [sh_step u v w (by omega), if_neg HA.out, if_neg HC.out]; omega)
      clear hX hY hu hn ih
      go_enter Try.func83, Try.ntmps83
      go_wp2
      go_quiet (fail)
      go_wp2
      go_quiet (fail)
      go_wp2
      go_ret
      exact ⟨ret_int hfin.out, by repeat (first | exact drawn_none _ | refine drawn_step ?_)⟩
end Go.Proofs.Ytaheikponfmdiaa.H

