/- Plain facts and contracts of functions that the law's walk uses. Conditions: those that stand in each statement. -/
import Derived.Test.YtibjkjhpfmmjoaaShG2
import Derived.Test.YtibjkjhpfmmjoaaShG1
import Derived.Lib.IndexBytes
import Derived.Test.YtibjkjhpfmmjoaaShG3
import Derived.Test.YtibjkjhpfmmjoaaWRepsOne
import Derived.Test.YtibjkjhpfmmjoaaShG5
import Derived.Test.YtibjkjhpfmmjoaaShG4
set_option linter.unusedVariables false
set_option linter.unusedSimpArgs false
namespace Go.Proofs.Ytibjkjhpfmmjoaa.H
open Go.RowKit Go.Proofs.YtibjkjhpfmmjoaaW.PrintWords Go.Proofs.YtibjkjhpfmmjoaaW.PrintLast Go.Proofs.YtibjkjhpfmmjoaaW.PrintMore Go.Proofs.Ytibjkjhpfmmjoaa.M
attribute [local go_sem] max2_int min2_int max_two min_two max_three min_three max_four min_four
set_option linter.unusedVariables false
set_option linter.unusedSimpArgs false

theorem bl_at (s : ByteArray) (k : Nat) (h : k < s.size) : (bl s).getD k 0 = s[k] := by
  rw [List.getD_eq_getElem?_getD, List.getElem?_eq_getElem (by rw [bl_len]; exact h)]; rfl
theorem byte_eq (s t : ByteArray) (k j : Nat) (hk : k < s.size) (hj : j < t.size) : ((s[k].toNat : Int) = (t[j].toNat : Int)) ↔ (bl s).getD k 0 = (bl t).getD j 0 := by
  rw [bl_at s k hk, bl_at t j hj, ← UInt8.toNat_inj]; omega

theorem byteCases (u v : ByteArray) (k q : Nat) (hk : k < u.size) (cu : Int) (hcu : ∀ h : k < u.size, ((u[k]'h).toNat : Int) = cu) :
    (∃ _ : q < v.size, ∃ cv : Int, (∀ h : q < v.size, ((v[q]'h).toNat : Int) = cv) ∧ (cu == cv) = true ∧ Hid (q < (bl v).length ∧ (bl u).getD k 0 = (bl v).getD q 0)) ∨
    (∃ _ : q < v.size, ∃ cv : Int, (∀ h : q < v.size, ((v[q]'h).toNat : Int) = cv) ∧ (cu == cv) = false ∧ Hid (¬ (q < (bl v).length ∧ (bl u).getD k 0 = (bl v).getD q 0))) ∨
    (¬ q < v.size ∧ Hid (¬ (q < (bl v).length ∧ (bl u).getD k 0 = (bl v).getD q 0))) := by
  by_cases hq : q < v.size
  · have hb := byte_eq u v k q hk hq
    rw [hcu hk] at hb
    by_cases he : cu = ((v[q]'hq).toNat : Int)
    · exact .inl ⟨hq, _, fun _ => rfl, by simpa using he, ⟨by rw [bl_len]; exact hq, hb.1 he⟩⟩
    · exact .inr (.inl ⟨hq, _, fun _ => rfl, by simpa using he, fun h => he (hb.2 h.2)⟩)
  · exact .inr (.inr ⟨hq, fun h => hq (by rw [← bl_len]; exact h.1)⟩)

set_option maxRecDepth 100000 in
set_option maxHeartbeats 8000000 in
theorem implShuffleNumber (v w u : ByteArray) (W : World) (hv : v.size ≤ 16) (hw : w.size ≤ 16) (hu : u.size ≤ 16) : Calls Try.prog 88 #[.string v, .string w, .string u] W fun e w' => e = .returned (.int .i64 ((sh (bl v) (bl w) (bl u) : Nat) : Int)) ∧ Below W.heap.size W w' := by
  by_cases hl : v.size + w.size = u.size
  · have HL := Lib.hid hl
    have hne : ((u.size : Int) != (v.size : Int) + (w.size : Int)) = false := by rw [bne_eq_false_iff_eq]; omega
    clear hl
    have HB := Aside0.mk (Below.refl W.heap.size W)
    go_enter Try.func88, Try.ntmps88
    go_wp2_with (first | ((with_reducible refine gate_dst (N := 24) rfl ?_); refine Kd.R_make (Kd.int .i64) _ 2 rfl (N := 24) rfl 116 _ _ rfl ((v.size : Int) + 1) rfl rfl Try.underlying116 (.int .i64 0) 8 infoInt64 rfl (by decide) (by omega) (0) (ok := fun _ => True) (okp := fun _ => True) rfl (fun _ hk => hk) trivial (by omega) (by omega) (Below.refl _ _) (Nat.le_refl _) ?_; intro v1 w1 ho hb hg_ hnew_; clear hg_ hnew_; rw [show ((v.size : Int) + 1).toNat = v.size + 1 by omega] at ho; obtain ⟨g, cap, e1, hgb, hgl, hcl⟩ := Kd.R_form ho (by simp); rw [List.length_replicate] at e1; subst e1; obtain ⟨hx, hf⟩ := Kd.R_celln 0 ho 0 (by omega) (by omega); have HO := Aside0.mk (Kd.R_lower (Kd.R_putn ho 0 1) (below_size (by repeat (first | (with_reducible first | exact HB.out | apply below_alloc | apply pw_below_drewN | apply below_drew1) | exact HB.out)))); have HG := Aside0.mk (show W.heap.size ≤ g from Nat.le_trans (below_size (by repeat (first | (with_reducible first | exact HB.out | apply below_alloc | apply pw_below_drewN | apply below_drew1) | exact HB.out))) hgb); clear ho hgb hcl; have hn_ := Aside0.mk (below_step (by repeat (first | (with_reducible first | exact HB.out | apply below_alloc | apply pw_below_drewN | apply below_drew1) | exact HB.out)) hb); clear HB hb; have HB := hn_; clear hn_; replace hx : w1.cell? ⟨g, 0, none⟩ = some (.int .i64 (rdOf 0 (List.replicate (v.size + 1) 0) 0)) := hx; replace hf : w1.frozen? ⟨g, 0, none⟩ = false := hf))
    go_loopw [7, 29] (fun y i w' => ∃ k : Nat, k ≤ u.size ∧ i = .int .i64 (k : Int) ∧ Aside0 (Kd.R (Kd.int .i64) 2 w' W.heap.size (fun _ => True) y (rowI (bl v) (bl w) (bl u) k)) ∧ Aside0 (Below W.heap.size W w')) (fun _ i _ => u.size - (intOf i).toNat)
    case atStart => exact ⟨0, Nat.zero_le _, rfl, ⟨by rw [rowI, bl_len]; exact HO.out⟩, ⟨below_set HB.out HG.out⟩⟩
    case round =>
      clear HO HB HG
      obtain ⟨k, hk, rfl, HO, HB⟩ := hrel
      obtain ⟨wo, rfl⟩ : ∃ wo : World, wo = wr := ⟨_, rfl⟩
      obtain ⟨g, cap, e1, hgb, hgl, hcl⟩ := Kd.R_form HO.out (by rw [rowI_length]; omega)
      rw [rowI_length, bl_len] at e1
      subst e1
      clear hgl hcl
      by_cases hku : k < u.size
      · go_wp2_with (first | ((with_reducible refine gate_dst (N := 35) rfl ?_); refine Kd.R_make (Kd.int .i64) _ 2 rfl (N := 35) rfl 116 _ _ rfl ((v.size : Int) + 1) rfl rfl Try.underlying116 (.int .i64 0) 8 infoInt64 rfl (by decide) (by omega) (0) (ok := fun _ => True) (okp := fun _ => True) rfl (fun _ hk => hk) trivial (by omega) (by omega) (Below.refl _ _) (Nat.le_refl _) ?_; intro v1 w1 ho hb hg_ hnew_; clear hg_ hnew_; rw [show ((v.size : Int) + 1).toNat = v.size + 1 by omega] at ho; obtain ⟨g2, cap2, e1, hgb2, hgl2, hcl2⟩ := Kd.R_form ho (by simp); rw [List.length_replicate] at e1; subst e1; have n1_ := Aside0.mk (Kd.R_mono (Kd.R_elder (by (with_reducible repeat (first | apply Kd.R_alloc | apply Kd.R_drewN | apply Kd.R_drew | apply Kd.C_alloc | apply Kd.C_drewN | apply Kd.C_drew)); exact HO.out) ho hb) (fun _ hk => hk.2)); have n2_ := Aside0.mk (Kd.R_lower (Kd.R_mono (Kd.R_newR ho (by (with_reducible repeat (first | apply Kd.R_alloc | apply Kd.R_drewN | apply Kd.R_drew | apply Kd.C_alloc | apply Kd.C_drewN | apply Kd.C_drew)); exact HO.out)) (fun _ hk => hk.2)) (below_size (by repeat (first | (with_reducible first | exact HB.out | apply below_alloc | apply pw_below_drewN | apply below_drew1) | exact HB.out)))); clear HO ho hgl2 hcl2; have HO := n1_; have HN := n2_; clear n1_ n2_; have hn_ := Aside0.mk (below_step (by repeat (first | (with_reducible first | exact HB.out | apply below_alloc | apply pw_below_drewN | apply below_drew1) | exact HB.out)) hb); clear HB hb; have HB := hn_; clear hn_))
        obtain ⟨cu, hcu⟩ : ∃ c : Int, ∀ h : k < u.size, ((u[k]'h).toNat : Int) = c := ⟨((u[k]'hku).toNat : Int), fun _ => rfl⟩
        have HG2 := Aside0.mk (show W.heap.size ≤ g2 from Nat.le_trans (Kd.R_base HN.out g2 (by simp [Value.ownBlock])) (Nat.le_refl _))
        clear hgb2
        go_loopw [38] (fun i w' => ∃ q : Nat, q ≤ v.size + 1 ∧ i = .int .i64 (q : Int) ∧ Aside0 (Kd.R (Kd.int .i64) 2 w' W.heap.size (fun k_ => some k_ ≠ (Value.slice (some ⟨g, 0, none⟩) (v.size + 1) cap).ownBlock) (.slice (some ⟨g2, 0, none⟩) (v.size + 1) cap2) (innerI (bl v) (bl w) ((bl u).getD k 0) k (rowI (bl v) (bl w) (bl u) k) q)) ∧ Aside0 (Kd.R (Kd.int .i64) 2 w' W.heap.size (fun k_ => some k_ ≠ (Value.slice (some ⟨g2, 0, none⟩) (v.size + 1) cap2).ownBlock) (.slice (some ⟨g, 0, none⟩) (v.size + 1) cap) (rowI (bl v) (bl w) (bl u) k)) ∧ Aside0 (Below W.heap.size W w')) (fun i _ => v.size + 1 - (intOf i).toNat)
        case atStart => exact ⟨0, Nat.zero_le _, rfl, ⟨by rw [innerI, bl_len]; exact HN.out⟩, HO, HB⟩
        case round =>
          clear HO HB HN
          obtain ⟨q, hq, rfl, HN, HO, HB⟩ := hrel
          by_cases hqv : q < v.size + 1
          · obtain ⟨hx, _⟩ := Kd.R_celln 0 HO.out (q : Int) (by omega) (by omega)
            obtain ⟨hy, hfy⟩ := Kd.R_celln 0 HN.out (q : Int) (by omega) (by omega)
            have hbx := rowI_bound (bl v) (bl w) (bl u) k q
            have hby := innerI_bound (bl v) (bl w) (bl u) ((bl u).getD k 0) k q q (by rw [bl_len]; omega)
            have hbz := innerI_bound (bl v) (bl w) (bl u) ((bl u).getD k 0) k q (q + 1) (by rw [bl_len]; omega)
            have hp := pow_le16 (k := k) (by omega)
            obtain ⟨x, ex⟩ : ∃ x, x = (rowI (bl v) (bl w) (bl u) k).getD q 0 := ⟨_, rfl⟩
            obtain ⟨y, ey⟩ : ∃ y, y = (innerI (bl v) (bl w) ((bl u).getD k 0) k (rowI (bl v) (bl w) (bl u) k) q).getD q 0 := ⟨_, rfl⟩
            obtain ⟨z, ez⟩ : ∃ z, z = (innerI (bl v) (bl w) ((bl u).getD k 0) k (rowI (bl v) (bl w) (bl u) k) q).getD (q + 1) 0 := ⟨_, rfl⟩
            rw [← ex] at hbx
            rw [← ey] at hby
            rw [← ez] at hbz
            have hx0 : 0 ≤ x := hbx.1
            have hx1 : x ≤ 65536 := by omega
            have hy0 : 0 ≤ y := hby.1
            have hy1 : y ≤ 131072 := by omega
            have hz0 : 0 ≤ z := hbz.1
            have hz1 : z ≤ 131072 := by omega
            clear hbx hby hbz hp
            replace hx : wr.cell? ⟨g, q, none⟩ = some (.int .i64 x) := by rw [ex]; exact hx
            replace hy : wr.cell? ⟨g2, q, none⟩ = some (.int .i64 y) := by rw [ey]; exact hy
            replace hfy : wr.frozen? ⟨g2, q, none⟩ = false := hfy
            have EX := Aside0.mk ex
            have EY := Aside0.mk ey
            have EZ := Aside0.mk ez
            clear ex ey ez
            have hneg : g ≠ g2 := fun e => HO.out.1 g (by simp [Value.ownBlock]) (by rw [e]; simp [Value.ownBlock])
            have hneg2 : g2 ≠ g := Ne.symm hneg
            by_cases hqk : q ≤ k
            · obtain ⟨r, hr⟩ : ∃ r : Nat, k - q = r := ⟨_, rfl⟩
              have hkr : (k : Int) - (q : Int) = (r : Int) := by omega
              have HR := Aside0.mk hr
              clear hr
              rcases byteCases u v k q hku cu hcu with ⟨hqs, cv, hcv, hab, HA⟩ | ⟨hqs, cv, hcv, hab, HA⟩ | ⟨hqs, HA⟩
              all_goals rcases byteCases u w k r hku cu hcu with ⟨hrs, cw, hcw, hac, HC⟩ | ⟨hrs, cw, hcw, hac, HC⟩ | ⟨hrs, HC⟩
              · obtain ⟨hx1y, hfz⟩ := R_cellN HN.out (q + 1) (by omega)
                rw [← EZ.out] at hx1y
                go_wp2
                go_quiet (fail)
                go_wp2
                go_quiet (fail)
                go_wp2
                go_roundw
                case rel => exact ⟨q + 1, by omega, by go_num, ⟨by rw [innerI, stepI_tt HA.out ⟨hqk, by rw [HR.out]; exact HC.out⟩, ← EX.out, ← EY.out, ← EZ.out]; exact (R_putN (Kd.R_drewN (R_putN (by (with_reducible repeat (first | apply Kd.R_drewN)); exact HN.out) (q + 1) _) _) q _)⟩, ⟨(Kd.R_far (p := ⟨g2, q, none⟩) (Kd.R_drewN (Kd.R_far (p := ⟨g2, q + 1, none⟩) (by (with_reducible repeat (first | apply Kd.R_drewN)); exact HO.out) (fun k_ hk e => hk (by rw [e]; simp [Value.ownBlock])) _) _) (fun k_ hk e => hk (by rw [e]; simp [Value.ownBlock])) _)⟩, ⟨(below_set (pw_below_drewN (below_set (by repeat (first | apply pw_below_drewN | exact HB.out)) HG2.out) _) HG2.out)⟩⟩
                case measure => simp [intOf]; omega
              · obtain ⟨hx1y, hfz⟩ := R_cellN HN.out (q + 1) (by omega)
                rw [← EZ.out] at hx1y
                go_wp2
                go_quiet (fail)
                go_wp2
                go_quiet (fail)
                go_wp2
                go_roundw
                case rel => exact ⟨q + 1, by omega, by go_num, ⟨by rw [innerI, stepI_tf HA.out (fun h => HC.out (by rw [← HR.out]; exact h.2)), ← EX.out, ← EZ.out]; exact (Kd.R_drewN (R_putN (by (with_reducible repeat (first | apply Kd.R_drewN)); exact HN.out) (q + 1) _) _)⟩, ⟨(Kd.R_drewN (Kd.R_far (p := ⟨g2, q + 1, none⟩) (by (with_reducible repeat (first | apply Kd.R_drewN)); exact HO.out) (fun k_ hk e => hk (by rw [e]; simp [Value.ownBlock])) _) _)⟩, ⟨(pw_below_drewN (below_set (by repeat (first | apply pw_below_drewN | exact HB.out)) HG2.out) _)⟩⟩
                case measure => simp [intOf]; omega
              · obtain ⟨hx1y, hfz⟩ := R_cellN HN.out (q + 1) (by omega)
                rw [← EZ.out] at hx1y
                have hrd : decide (r < w.size) = false := by simpa using hrs
                go_wp2
                go_quiet (fail)
                go_wp2
                go_quiet (fail)
                go_wp2
                go_roundw
                case rel => exact ⟨q + 1, by omega, by go_num, ⟨by rw [innerI, stepI_tf HA.out (fun h => HC.out (by rw [← HR.out]; exact h.2)), ← EX.out, ← EZ.out]; exact (Kd.R_drewN (R_putN (by (with_reducible repeat (first | apply Kd.R_drewN)); exact HN.out) (q + 1) _) _)⟩, ⟨(Kd.R_drewN (Kd.R_far (p := ⟨g2, q + 1, none⟩) (by (with_reducible repeat (first | apply Kd.R_drewN)); exact HO.out) (fun k_ hk e => hk (by rw [e]; simp [Value.ownBlock])) _) _)⟩, ⟨(pw_below_drewN (below_set (by repeat (first | apply pw_below_drewN | exact HB.out)) HG2.out) _)⟩⟩
                case measure => simp [intOf]; omega
              · go_wp2
                go_quiet (fail)
                go_wp2
                go_quiet (fail)
                go_wp2
                go_roundw
                case rel => exact ⟨q + 1, by omega, by go_num, ⟨by rw [innerI, stepI_ft HA.out ⟨hqk, by rw [HR.out]; exact HC.out⟩, ← EX.out, ← EY.out]; exact (R_putN (by (with_reducible repeat (first | apply Kd.R_drewN)); exact HN.out) q _)⟩, ⟨(Kd.R_far (p := ⟨g2, q, none⟩) (by (with_reducible repeat (first | apply Kd.R_drewN)); exact HO.out) (fun k_ hk e => hk (by rw [e]; simp [Value.ownBlock])) _)⟩, ⟨(below_set (by repeat (first | apply pw_below_drewN | exact HB.out)) HG2.out)⟩⟩
                case measure => simp [intOf]; omega
              · go_wp2
                go_quiet (fail)
                go_wp2
                go_quiet (fail)
                go_wp2
                go_roundw
                case rel => exact ⟨q + 1, by omega, by go_num, ⟨by rw [innerI, stepI_ff HA.out (fun h => HC.out (by rw [← HR.out]; exact h.2))]; exact (by (with_reducible repeat (first | apply Kd.R_drewN)); exact HN.out)⟩, ⟨(by (with_reducible repeat (first | apply Kd.R_drewN)); exact HO.out)⟩, ⟨(by repeat (first | apply pw_below_drewN | exact HB.out))⟩⟩
                case measure => simp [intOf]; omega
              · have hrd : decide (r < w.size) = false := by simpa using hrs
                go_wp2
                go_quiet (fail)
                go_wp2
                go_quiet (fail)
                go_wp2
                go_roundw
                case rel => exact ⟨q + 1, by omega, by go_num, ⟨by rw [innerI, stepI_ff HA.out (fun h => HC.out (by rw [← HR.out]; exact h.2))]; exact (by (with_reducible repeat (first | apply Kd.R_drewN)); exact HN.out)⟩, ⟨(by (with_reducible repeat (first | apply Kd.R_drewN)); exact HO.out)⟩, ⟨(by repeat (first | apply pw_below_drewN | exact HB.out))⟩⟩
                case measure => simp [intOf]; omega
              · have hqd : decide (q < v.size) = false := by simpa using hqs
                go_wp2
                go_quiet (fail)
                go_wp2
                go_quiet (fail)
                go_wp2
                go_roundw
                case rel => exact ⟨q + 1, by omega, by go_num, ⟨by rw [innerI, stepI_ft HA.out ⟨hqk, by rw [HR.out]; exact HC.out⟩, ← EX.out, ← EY.out]; exact (R_putN (by (with_reducible repeat (first | apply Kd.R_drewN)); exact HN.out) q _)⟩, ⟨(Kd.R_far (p := ⟨g2, q, none⟩) (by (with_reducible repeat (first | apply Kd.R_drewN)); exact HO.out) (fun k_ hk e => hk (by rw [e]; simp [Value.ownBlock])) _)⟩, ⟨(below_set (by repeat (first | apply pw_below_drewN | exact HB.out)) HG2.out)⟩⟩
                case measure => simp [intOf]; omega
              · have hqd : decide (q < v.size) = false := by simpa using hqs
                go_wp2
                go_quiet (fail)
                go_wp2
                go_quiet (fail)
                go_wp2
                go_roundw
                case rel => exact ⟨q + 1, by omega, by go_num, ⟨by rw [innerI, stepI_ff HA.out (fun h => HC.out (by rw [← HR.out]; exact h.2))]; exact (by (with_reducible repeat (first | apply Kd.R_drewN)); exact HN.out)⟩, ⟨(by (with_reducible repeat (first | apply Kd.R_drewN)); exact HO.out)⟩, ⟨(by repeat (first | apply pw_below_drewN | exact HB.out))⟩⟩
                case measure => simp [intOf]; omega
              · have hqd : decide (q < v.size) = false := by simpa using hqs
                have hrd : decide (r < w.size) = false := by simpa using hrs
                go_wp2
                go_quiet (fail)
                go_wp2
                go_quiet (fail)
                go_wp2
                go_roundw
                case rel => exact ⟨q + 1, by omega, by go_num, ⟨by rw [innerI, stepI_ff HA.out (fun h => HC.out (by rw [← HR.out]; exact h.2))]; exact (by (with_reducible repeat (first | apply Kd.R_drewN)); exact HN.out)⟩, ⟨(by (with_reducible repeat (first | apply Kd.R_drewN)); exact HO.out)⟩, ⟨(by repeat (first | apply pw_below_drewN | exact HB.out))⟩⟩
                case measure => simp [intOf]; omega
            · rcases byteCases u v k q hku cu hcu with ⟨hqs, cv, hcv, hab, HA⟩ | ⟨hqs, cv, hcv, hab, HA⟩ | ⟨hqs, HA⟩
              · obtain ⟨hx1y, hfz⟩ := R_cellN HN.out (q + 1) (by omega)
                rw [← EZ.out] at hx1y
                have hkd : decide (0 ≤ (k : Int) - (q : Int)) = false := by simp; omega
                have hkd2 : decide (q ≤ k) = false := by simpa using hqk
                have hkd3 : (k : Int) - (q : Int) < 0 := by omega
                go_wp2
                go_quiet (fail)
                go_wp2
                go_quiet (fail)
                go_wp2
                go_roundw
                case rel => exact ⟨q + 1, by omega, by go_num, ⟨by rw [innerI, stepI_tf HA.out (fun h => hqk h.1), ← EX.out, ← EZ.out]; exact (Kd.R_drewN (R_putN (by (with_reducible repeat (first | apply Kd.R_drewN)); exact HN.out) (q + 1) _) _)⟩, ⟨(Kd.R_drewN (Kd.R_far (p := ⟨g2, q + 1, none⟩) (by (with_reducible repeat (first | apply Kd.R_drewN)); exact HO.out) (fun k_ hk e => hk (by rw [e]; simp [Value.ownBlock])) _) _)⟩, ⟨(pw_below_drewN (below_set (by repeat (first | apply pw_below_drewN | exact HB.out)) HG2.out) _)⟩⟩
                case measure => simp [intOf]; omega
              · have hkd : decide (0 ≤ (k : Int) - (q : Int)) = false := by simp; omega
                have hkd2 : decide (q ≤ k) = false := by simpa using hqk
                have hkd3 : (k : Int) - (q : Int) < 0 := by omega
                go_wp2
                go_quiet (fail)
                go_wp2
                go_quiet (fail)
                go_wp2
                go_roundw
                case rel => exact ⟨q + 1, by omega, by go_num, ⟨by rw [innerI, stepI_ff HA.out (fun h => hqk h.1)]; exact (by (with_reducible repeat (first | apply Kd.R_drewN)); exact HN.out)⟩, ⟨(by (with_reducible repeat (first | apply Kd.R_drewN)); exact HO.out)⟩, ⟨(by repeat (first | apply pw_below_drewN | exact HB.out))⟩⟩
                case measure => simp [intOf]; omega
              · have hqd : decide (q < v.size) = false := by simpa using hqs
                have hkd : decide (0 ≤ (k : Int) - (q : Int)) = false := by simp; omega
                have hkd2 : decide (q ≤ k) = false := by simpa using hqk
                have hkd3 : (k : Int) - (q : Int) < 0 := by omega
                go_wp2
                go_quiet (fail)
                go_wp2
                go_quiet (fail)
                go_wp2
                go_roundw
                case rel => exact ⟨q + 1, by omega, by go_num, ⟨by rw [innerI, stepI_ff HA.out (fun h => hqk h.1)]; exact (by (with_reducible repeat (first | apply Kd.R_drewN)); exact HN.out)⟩, ⟨(by (with_reducible repeat (first | apply Kd.R_drewN)); exact HO.out)⟩, ⟨(by repeat (first | apply pw_below_drewN | exact HB.out))⟩⟩
                case measure => simp [intOf]; omega
          · have EQ := Aside0.mk (show q = v.size + 1 by omega)
            have hqd : decide ((q : Int) < (v.size : Int) + 1) = false := by simp; omega
            clear hcu cu
            go_wp2
            go_roundw
            case rel => exact ⟨k + 1, by omega, by go_num, ⟨by have h := HN.out; rw [EQ.out] at h; rw [rowI, bl_len]; exact Kd.R_mono h (fun _ _ => trivial)⟩, HB⟩
            case measure => simp [intOf]; omega
      · obtain rfl : k = u.size := by omega
        have hx : wo.cell? ⟨g, v.size, none⟩ = some (.int .i64 (rdOf 0 (rowI (bl v) (bl w) (bl u) u.size) (v.size : Int))) := (Kd.R_celln 0 HO.out (v.size : Int) (by omega) (by omega)).1
        have he : Hid (rdOf 0 (rowI (bl v) (bl w) (bl u) u.size) (v.size : Int) = ((sh (bl v) (bl w) (bl u) : Nat) : Int)) := by
          have := row_last (bl v) (bl w) (bl u) (by rw [bl_len, bl_len, bl_len]; exact HL.out)
          rw [bl_len, bl_len] at this
          exact this
        go_wp2
        go_ret
        exact ⟨ret_int he.out, HB.out⟩
  · have hz := Lib.hid (show ((sh (bl v) (bl w) (bl u) : Nat) : Int) = 0 by rw [sh_len _ _ _ (by rw [bl_len, bl_len, bl_len]; exact hl)]; rfl)
    have hne : ((u.size : Int) != (v.size : Int) + (w.size : Int)) = true := by rw [bne_iff_ne]; omega
    clear hl
    go_enter Try.func88, Try.ntmps88
    go_wp2
    go_ret
    exact ⟨ret_int hz.out.symm, Below.refl _ _⟩
theorem cut_size (s : ByteArray) : (s.extract 1 s.size).size = s.size - 1 := by rw [ByteArray.size_extract]; omega
theorem cut_bl (s : ByteArray) : bl (s.extract 1 s.size) = (bl s).drop 1 := Lib.extract_to_end s 1
theorem sh_step (u v w : ByteArray) (h : 0 < u.size) : sh (bl v) (bl w) (bl u) = (if 0 < (bl v).length ∧ (bl u).getD 0 0 = (bl v).getD 0 0 then sh (bl (v.extract 1 v.size)) (bl w) (bl (u.extract 1 u.size)) else 0) + (if 0 < (bl w).length ∧ (bl u).getD 0 0 = (bl w).getD 0 0 then sh (bl v) (bl (w.extract 1 w.size)) (bl (u.extract 1 u.size)) else 0) := by
  rw [cut_bl, cut_bl, cut_bl]
  cases hu : bl u with
  | nil => rw [← bl_len, hu] at h; simp at h
  | cons c u' =>
    rw [sh_cons]
    congr 1
    · cases bl v with
      | nil => simp
      | cons a v' => simp [eq_comm]
    · cases bl w with
      | nil => simp
      | cons b w' => simp [eq_comm]

set_option maxRecDepth 100000 in
set_option maxHeartbeats 8000000 in
theorem specNumber : ∀ (n : Nat) (v w u : ByteArray) (W : World), u.size = n → v.size ≤ 16 → w.size ≤ 16 → n ≤ 16 → Calls Try.prog 92 #[.string v, .string w, .string u] W fun e w' => e = .returned (.int .i64 ((sh (bl v) (bl w) (bl u) : Nat) : Int)) ∧ ∃ m, w' = W.drewN m := by
  intro n
  induction n with
  | zero =>
    intro v w u W hu hv hw hn
    by_cases hl : v.size + w.size = u.size
    · have hz := Lib.hid (show (1 : Int) = ((sh (bl v) (bl w) (bl u) : Nat) : Int) by
        have e1 : bl u = [] := List.eq_nil_of_length_eq_zero (by rw [bl_len]; omega)
        have e2 : bl v = [] := List.eq_nil_of_length_eq_zero (by rw [bl_len]; omega)
        have e3 : bl w = [] := List.eq_nil_of_length_eq_zero (by rw [bl_len]; omega)
        rw [e1, e2, e3]; rfl)
      have hne : ((v.size : Int) + (w.size : Int) != (u.size : Int)) = false := by rw [bne_eq_false_iff_eq]; omega
      have hu0 : ((u.size : Int) == 0) = true := by rw [beq_iff_eq]; omega
      clear hl hu hn
      go_enter Try.func92, Try.ntmps92
      go_wp2
      go_ret
      exact ⟨ret_int hz.out, 0, rfl⟩
    · have hz := Lib.hid (show (0 : Int) = ((sh (bl v) (bl w) (bl u) : Nat) : Int) by rw [sh_len _ _ _ (by rw [bl_len, bl_len, bl_len]; exact hl)]; rfl)
      have hne : ((v.size : Int) + (w.size : Int) != (u.size : Int)) = true := by rw [bne_iff_ne]; omega
      clear hl hu hn
      go_enter Try.func92, Try.ntmps92
      go_wp2
      go_ret
      exact ⟨ret_int hz.out, 0, rfl⟩
  | succ n ih =>
    intro v w u W hu hv hw hn
    by_cases hl : ¬ (v.size + w.size = u.size)
    · have hz := Lib.hid (show (0 : Int) = ((sh (bl v) (bl w) (bl u) : Nat) : Int) by rw [sh_len _ _ _ (by rw [bl_len, bl_len, bl_len]; exact hl)]; rfl)
      have hne : ((v.size : Int) + (w.size : Int) != (u.size : Int)) = true := by rw [bne_iff_ne]; omega
      clear hl hu hn ih
      go_enter Try.func92, Try.ntmps92
      go_wp2
      go_ret
      exact ⟨ret_int hz.out, 0, rfl⟩
    replace hl := Decidable.not_not.1 hl
    have hne : ((v.size : Int) + (w.size : Int) != (u.size : Int)) = false := by rw [bne_eq_false_iff_eq]; omega
    have hu0 : ((u.size : Int) == 0) = false := by rw [beq_eq_false_iff_ne]; omega
    have hup : 0 < u.size := by omega
    obtain ⟨x, hX⟩ : ∃ x, x = ((sh (bl (v.extract 1 v.size)) (bl w) (bl (u.extract 1 u.size)) : Nat) : Int) := ⟨_, rfl⟩
    obtain ⟨y, hY⟩ : ∃ y, y = ((sh (bl v) (bl (w.extract 1 w.size)) (bl (u.extract 1 u.size)) : Nat) : Int) := ⟨_, rfl⟩
    have hb : ∀ a b : List UInt8, sh a b (bl (u.extract 1 u.size)) ≤ 65536 := fun a b => by
      refine Nat.le_trans (sh_le _ _ _) ?_
      rw [bl_len]
      exact Nat.pow_le_pow_right (n := 2) (by omega) (show (u.extract 1 u.size).size ≤ 16 by rw [cut_size]; omega)
    have hx0 : 0 ≤ x := by omega
    have hx1 : x ≤ 65536 := by have := hb (bl (v.extract 1 v.size)) (bl w); omega
    have hy0 : 0 ≤ y := by omega
    have hy1 : y ≤ 65536 := by have := hb (bl v) (bl (w.extract 1 w.size)); omega
    clear hb
    obtain ⟨cu, hcu⟩ : ∃ c : Int, ∀ h : 0 < u.size, ((u[0]'h).toNat : Int) = c := ⟨((u[0]'hup).toNat : Int), fun _ => rfl⟩
    have HU := Lib.hid hu
    have HL := Lib.hid hl
    clear hl
    rcases byteCases u v 0 0 hup cu hcu with ⟨h1, cv, hcv, hab, HA⟩ | ⟨h1, cv, hcv, hab, HA⟩ | ⟨h1, HA⟩
    all_goals rcases byteCases u w 0 0 hup cu hcu with ⟨h2, cw, hcw, hac, HC⟩ | ⟨h2, cw, hcw, hac, HC⟩ | ⟨h2, HC⟩
    · have c1 := fun W => ih (v.extract 1 v.size) w (u.extract 1 u.size) W (by rw [cut_size]; omega) (by rw [cut_size]; omega) hw (by omega)
      rw [← hX] at c1
      have c2 := fun W => ih v (w.extract 1 w.size) (u.extract 1 u.size) W (by rw [cut_size]; omega) hv (by rw [cut_size]; omega) (by omega)
      rw [← hY] at c2
      have hfin := Lib.hid (show x + y = ((sh (bl v) (bl w) (bl u) : Nat) : Int) by rw [sh_step u v w (by omega), if_pos HA.out, if_pos HC.out]; omega)
      clear hX hY hu hn ih
      go_enter Try.func92, Try.ntmps92
      go_wp2
      go_quiet (fail)
      go_wp2
      go_quiet ((go_at_call 92; exact quiet_add (c1 _)))
      go_wp2
      go_quiet (fail)
      go_wp2
      go_quiet ((go_at_call 92; exact quiet_add (c2 _)))
      go_wp2
      go_ret
      exact ⟨ret_int hfin.out, by repeat (first | exact drawn_none _ | refine drawn_step ?_)⟩
    · have c1 := fun W => ih (v.extract 1 v.size) w (u.extract 1 u.size) W (by rw [cut_size]; omega) (by rw [cut_size]; omega) hw (by omega)
      rw [← hX] at c1
      have hfin := Lib.hid (show x = ((sh (bl v) (bl w) (bl u) : Nat) : Int) by rw [sh_step u v w (by omega), if_pos HA.out, if_neg HC.out]; omega)
      clear hX hY hu hn ih
      go_enter Try.func92, Try.ntmps92
      go_wp2
      go_quiet (fail)
      go_wp2
      go_quiet ((go_at_call 92; exact quiet_add (c1 _)))
      go_wp2
      go_quiet (fail)
      go_wp2
      go_ret
      exact ⟨ret_int hfin.out, by repeat (first | exact drawn_none _ | refine drawn_step ?_)⟩
    · have hd2 : decide (0 < w.size) = false := by simpa using h2
      have c1 := fun W => ih (v.extract 1 v.size) w (u.extract 1 u.size) W (by rw [cut_size]; omega) (by rw [cut_size]; omega) hw (by omega)
      rw [← hX] at c1
      have hfin := Lib.hid (show x = ((sh (bl v) (bl w) (bl u) : Nat) : Int) by rw [sh_step u v w (by omega), if_pos HA.out, if_neg HC.out]; omega)
      clear hX hY hu hn ih
      go_enter Try.func92, Try.ntmps92
      go_wp2
      go_quiet (fail)
      go_wp2
      go_quiet ((go_at_call 92; exact quiet_add (c1 _)))
      go_wp2
      go_quiet (fail)
      go_wp2
      go_ret
      exact ⟨ret_int hfin.out, by repeat (first | exact drawn_none _ | refine drawn_step ?_)⟩
    · have c2 := fun W => ih v (w.extract 1 w.size) (u.extract 1 u.size) W (by rw [cut_size]; omega) hv (by rw [cut_size]; omega) (by omega)
      rw [← hY] at c2
      have hfin := Lib.hid (show y = ((sh (bl v) (bl w) (bl u) : Nat) : Int) by rw [sh_step u v w (by omega), if_neg HA.out, if_pos HC.out]; omega)
      clear hX hY hu hn ih
      go_enter Try.func92, Try.ntmps92
      go_wp2
      go_quiet (fail)
      go_wp2
      go_quiet (fail)
      go_wp2
      go_quiet ((go_at_call 92; exact quiet_add (c2 _)))
      go_wp2
      go_ret
      exact ⟨ret_int hfin.out, by repeat (first | exact drawn_none _ | refine drawn_step ?_)⟩
    · have hfin := Lib.hid (show 0 = ((sh (bl v) (bl w) (bl u) : Nat) : Int) by rw [sh_step u v w (by omega), if_neg HA.out, if_neg HC.out]; omega)
      clear hX hY hu hn ih
      go_enter Try.func92, Try.ntmps92
      go_wp2
      go_quiet (fail)
      go_wp2
      go_quiet (fail)
      go_wp2
      go_ret
      exact ⟨ret_int hfin.out, by repeat (first | exact drawn_none _ | refine drawn_step ?_)⟩
    · have hd2 : decide (0 < w.size) = false := by simpa using h2
      have hfin := Lib.hid (show 0 = ((sh (bl v) (bl w) (bl u) : Nat) : Int) by rw [sh_step u v w (by omega), if_neg HA.out, if_neg HC.out]; omega)
      clear hX hY hu hn ih
      go_enter Try.func92, Try.ntmps92
      go_wp2
      go_quiet (fail)
      go_wp2
      go_quiet (fail)
      go_wp2
      go_ret
      exact ⟨ret_int hfin.out, by repeat (first | exact drawn_none _ | refine drawn_step ?_)⟩
    · have hd1 : decide (0 < v.size) = false := by simpa using h1
      have c2 := fun W => ih v (w.extract 1 w.size) (u.extract 1 u.size) W (by rw [cut_size]; omega) hv (by rw [cut_size]; omega) (by omega)
      rw [← hY] at c2
      have hfin := Lib.hid (show y = ((sh (bl v) (bl w) (bl u) : Nat) : Int) by rw [sh_step u v w (by omega), if_neg HA.out, if_pos HC.out]; omega)
      clear hX hY hu hn ih
      go_enter Try.func92, Try.ntmps92
      go_wp2
      go_quiet (fail)
      go_wp2
      go_quiet (fail)
      go_wp2
      go_quiet ((go_at_call 92; exact quiet_add (c2 _)))
      go_wp2
      go_ret
      exact ⟨ret_int hfin.out, by repeat (first | exact drawn_none _ | refine drawn_step ?_)⟩
    · have hd1 : decide (0 < v.size) = false := by simpa using h1
      have hfin := Lib.hid (show 0 = ((sh (bl v) (bl w) (bl u) : Nat) : Int) by rw [sh_step u v w (by omega), if_neg HA.out, if_neg HC.out]; omega)
      clear hX hY hu hn ih
      go_enter Try.func92, Try.ntmps92
      go_wp2
      go_quiet (fail)
      go_wp2
      go_quiet (fail)
      go_wp2
      go_ret
      exact ⟨ret_int hfin.out, by repeat (first | exact drawn_none _ | refine drawn_step ?_)⟩
    · have hd1 : decide (0 < v.size) = false := by simpa using h1
      have hd2 : decide (0 < w.size) = false := by simpa using h2
      have hfin := Lib.hid (show 0 = ((sh (bl v) (bl w) (bl u) : Nat) : Int) by rw [sh_step u v w (by omega), if_neg HA.out, if_neg HC.out]; omega)
      clear hX hY hu hn ih
      go_enter Try.func92, Try.ntmps92
      go_wp2
      go_quiet (fail)
      go_wp2
      go_quiet (fail)
      go_wp2
      go_ret
      exact ⟨ret_int hfin.out, by repeat (first | exact drawn_none _ | refine drawn_step ?_)⟩
end Go.Proofs.Ytibjkjhpfmmjoaa.H


namespace Go.Proofs.Ytibjkjhpfmmjoaa.H
open Go.RowKit Go.Proofs.YtibjkjhpfmmjoaaW.PrintWords Go.Proofs.YtibjkjhpfmmjoaaW.PrintLast Go.Proofs.YtibjkjhpfmmjoaaW.PrintMore Go.Proofs.Ytibjkjhpfmmjoaa.M
attribute [local go_sem] max2_int min2_int max_two min_two max_three min_three max_four min_four
set_option linter.unusedVariables false
set_option linter.unusedSimpArgs false
theorem reps_one_string (W : World) (base : Nat) (ok : Nat → Prop) (s : ByteArray) : Reps (Kd.string.M W base ok) Kd.string.sz [s] [.string s] := reps_str s W base ok
theorem letter_str (q : Nat) (h : q < 3) : strOfNums [48 + (q : Int)] = letter q := by rw [dig_str q (by omega), letter_dig]
set_option maxRecDepth 100000 in
set_option maxHeartbeats 4000000 in
theorem specWords (d n : Nat) (w : World) (hd : d ≤ 3) (hn : n ≤ 8) : Calls Try.prog 118 #[.int .i64 (d : Int), .int .i64 (n : Int)] w fun e w' => ∃ v : Value, e = .returned v ∧ Kd.R Kd.string 9 w' w.heap.size (fun _ => True) v (wordsN d n) ∧ Below w.heap.size w w' := by
  have HB := Aside0.mk (Below.refl w.heap.size w)
  go_enter Try.func118, Try.ntmps118
  go_wp2_with (first | ((with_reducible refine gate_dst (N := 9) rfl ?_); refine Kd.R_lit (Kd.string) _ 9 ?hg (N := 9) ?hd (xs := ([⟨#[]⟩] : List ByteArray)) (inner := [.string ⟨#[]⟩]) (ok := fun _ => True) (okp := fun _ => True) ?hr ?hp (fun _ hk => hk) trivial (Below.refl _ _) (Nat.le_refl _) (by simp) ?_; (case hd => rfl); (case hg => rfl); (case hr => first | (go_simp; done) | (go_simp; rfl)); (case hp => exact reps_one_string _ _ _ _); intro v1 w1 ho hb hg_ hnew_; clear hg_ hnew_; have HO := Aside0.mk (Kd.R_lower ho (below_size (by repeat (first | (with_reducible first | exact HB.out | apply below_alloc | apply pw_below_drewN | apply below_drew1) | exact HB.out)))); clear ho; have hn_ := Aside0.mk (below_step (by repeat (first | (with_reducible first | exact HB.out | apply below_alloc | apply pw_below_drewN | apply below_drew1) | exact HB.out)) hb); clear HB hb; have HB := hn_; clear hn_))
  go_loopw [1, 5] (fun x y w' => ∃ m : Nat, m ≤ n ∧ x = .int .i64 (m : Int) ∧ Aside0 (Kd.R Kd.string 9 w' w.heap.size (fun _ => True) y (wordsN d (n - m))) ∧ Aside0 (Below w.heap.size w w')) (fun x _ _ => (intOf x).toNat)
  case atStart => exact ⟨n, Nat.le_refl _, rfl, ⟨by rw [Nat.sub_self]; exact HO.out⟩, HB⟩
  case round =>
    clear HO HB
    obtain ⟨m, hm, rfl, HO, HB⟩ := hrel
    obtain ⟨wo, rfl⟩ : ∃ wo : World, wo = wr := ⟨_, rfl⟩
    obtain ⟨Ao, co, eo⟩ := Kd.R_slice HO.out
    subst eo
    by_cases hlt : 0 < m
    · obtain ⟨ws, hws⟩ : ∃ ws, ws = wordsN d (n - m) := ⟨_, rfl⟩
      have hwl : ws.length ≤ 6561 := by rw [hws]; exact wordsN_le hd (by omega)
      rw [← hws] at HO
      have HWS := Aside0.mk hws
      rw [← hws]
      clear hws
      go_wp2_with (first | ((with_reducible refine gate_dst (N := 14) rfl ?_); refine Kd.R_lit (Kd.string) _ 9 ?hg (N := 14) ?hd (xs := ([] : List ByteArray)) (inner := []) (ok := fun _ => True) (okp := fun _ => True) ?hr ?hp (fun _ hk => hk) trivial (Below.refl _ _) (Nat.le_refl _) (by simp) ?_; (case hd => rfl); (case hg => rfl); (case hr => first | (go_simp; done) | (go_simp; rfl)); (case hp => exact Reps.none _ _); intro v1 w1 ho hb hg_ hnew_; clear hg_ hnew_; have n1_ := Aside0.mk (Kd.R_mono (Kd.R_elder (by (with_reducible repeat (first | apply Kd.R_alloc | apply Kd.R_drewN | apply Kd.R_drew | apply Kd.C_alloc | apply Kd.C_drewN | apply Kd.C_drew)); exact HO.out) ho hb) (fun _ hk => hk.2)); have n2_ := Aside0.mk (Kd.R_lower (Kd.R_mono (Kd.R_newR ho (by (with_reducible repeat (first | apply Kd.R_alloc | apply Kd.R_drewN | apply Kd.R_drew | apply Kd.C_alloc | apply Kd.C_drewN | apply Kd.C_drew)); exact HO.out)) (fun _ hk => hk.2)) (below_size (by repeat (first | (with_reducible first | exact HB.out | apply below_alloc | apply pw_below_drewN | apply below_drew1) | exact HB.out)))); clear HO ho; have HO := n1_; have HN := n2_; clear n1_ n2_; have hn_ := Aside0.mk (below_step (by repeat (first | (with_reducible first | exact HB.out | apply below_alloc | apply pw_below_drewN | apply below_drew1) | exact HB.out)) hb); clear HB hb; have HB := hn_; clear hn_))
      go_loopw [6, 7] (fun y i w' => ∃ j : Nat, j ≤ ws.length ∧ i = .int .i64 (j : Int) ∧ Aside0 (Kd.R Kd.string 9 w' w.heap.size (fun k_ => some k_ ≠ (Value.slice Ao ws.length co).ownBlock) y (nextWords d (ws.take j))) ∧ Aside0 (Kd.R Kd.string 9 w' w.heap.size (fun k_ => some k_ ≠ y.ownBlock) (.slice Ao ws.length co) ws) ∧ Aside0 (Below w.heap.size w w')) (fun _ i _ => ws.length - (intOf i).toNat)
      case atStart => exact ⟨0, Nat.zero_le _, rfl, HN, HO, HB⟩
      case round =>
        clear HO HN HB
        obtain ⟨j, hj, rfl, HN, HO, HB⟩ := hrel
        obtain ⟨wi, rfl⟩ : ∃ wi : World, wi = wr := ⟨_, rfl⟩
        by_cases hjl : j < ws.length
        · go_wp2
          obtain ⟨ad, ea, hx⟩ := Kd.at_string (Kd.R_reads' HO.out).2.2 (j : Int) (by omega) (by omega)
          cases ea
          clear hx
          go_loopw [6, 8] (fun y i w' => ∃ q : Nat, q ≤ d ∧ i = .int .i64 (q : Int) ∧ Aside0 (Kd.R Kd.string 9 w' w.heap.size (fun k_ => some k_ ≠ (Value.slice (some ad) ws.length co).ownBlock) y (makingW d ws j q)) ∧ Aside0 (Kd.R Kd.string 9 w' w.heap.size (fun k_ => some k_ ≠ y.ownBlock) (.slice (some ad) ws.length co) ws) ∧ Aside0 (Below w.heap.size w w')) (fun _ i _ => d - (intOf i).toNat)
          case atStart => exact ⟨0, Nat.zero_le _, rfl, ⟨by rw [makingW_zero]; exact HN.out⟩, HO, HB⟩
          case round =>
            clear HO HN HB
            obtain ⟨q, hq, rfl, HN, HO, HB⟩ := hrel
            by_cases hqd : q < d
            · have hlen := Aside0.mk (makingW_le (d := d) hd hwl j q (by omega))
              obtain ⟨ad', ea, hx⟩ := Kd.at_string (Kd.R_reads' HO.out).2.2 (j : Int) (by omega) (by omega)
              cases ea
              obtain ⟨s, hs⟩ : ∃ s, s = rdOf ByteArray.empty ws (j : Int) := ⟨_, rfl⟩
              rw [← hs] at hx
              have HS := Aside0.mk (show ws.getD j ByteArray.empty = s from hs.symm)
              have hss : s.size ≤ 8 := by rw [hs, wordsN_size (n := n - m) (d := d) (by rw [← HWS.out]; exact getD_mem hjl)]; omega
              clear hs
              have hsz : (9223372036854775807 < s.size + (strOfNums [48 + (q : Int)]).size) = False := eq_false (Nat.not_lt.2 (show s.size + 1 ≤ 9223372036854775807 by omega))
              clear hss
              go_wp2
              have hx1 : wr.drew.cell? (ad.add j) = some (.string s) := hx
              have n0_ := Aside0.mk (Kd.R_drew HN.out)
              have n1_ := Aside0.mk (Kd.R_drew HO.out)
              have n2_ := Aside0.mk (below_drew1 HB.out)
              clear HN HO HB hx
              have HN := n0_
              have HO := n1_
              have HB := n2_
              clear n0_ n1_ n2_
              have hw32 : IntKind.i64.wrap (48 + (q : Int)) = 48 + q := IntWalk.i64_in _ (by omega)
              have hw33 : IntKind.u8.wrap (48 + (q : Int)) = 48 + q := u8_small _ (by omega) (by omega)
              refine start_ (n := 14) (S := fun w' => w'.cell? (ad.add j) = some (.string s)) (ds := [11, 12]) #[false, false, false, false, false, false, false, false, false, false, false, false, false, false] (by kernel_rfl) rfl rfl (hx1) (fun hHeld => ?_)
              generalize wr.drew = wd at HN HO HB hHeld hx1 ⊢
              refine pure_ (i := 0) (N := some 26) (v := ?_) (a' := ?_) #[true, false, false, false, false, false, false, false, false, false, false, false, false, false] rfl rfl (by kernel_rfl) (fun _ _ _ h => h) (Or.inl ⟨by rfl, ?_⟩) ?_ ?_
              rotate_left
              · intro w'
                go_simp
                with_reducible rfl
              rotate_left
              · simp only [Act.put, List.setIfInBounds_toArray, List.set_cons_zero, List.set_cons_succ, i64_w, i32_w]
                rfl
              refine pure_ (i := 1) (N := some 27) (v := ?_) (a' := ?_) #[true, true, false, false, false, false, false, false, false, false, false, false, false, false] rfl rfl (by kernel_rfl) (fun _ _ _ h => h) (Or.inl ⟨by rfl, ?_⟩) ?_ ?_
              rotate_left
              · intro w'
                go_simp
                with_reducible rfl
              rotate_left
              · simp only [Act.put, List.setIfInBounds_toArray, List.set_cons_zero, List.set_cons_succ, i64_w, i32_w]
                rfl
              refine pure_ (i := 2) (N := some 28) (v := ?_) (a' := ?_) #[true, true, true, false, false, false, false, false, false, false, false, false, false, false] rfl rfl (by kernel_rfl) (fun _ _ _ h => h) (Or.inl ⟨by rfl, ?_⟩) ?_ ?_
              rotate_left
              · intro w'
                go_simp
                with_reducible rfl
              rotate_left
              · simp only [Act.put, List.setIfInBounds_toArray, List.set_cons_zero, List.set_cons_succ, i64_w, i32_w]
                rfl
              refine pure_ (i := 3) (N := some 29) (v := ?_) (a' := ?_) #[true, true, true, true, false, false, false, false, false, false, false, false, false, false] rfl rfl (by kernel_rfl) (fun _ _ _ h => h) (Or.inl ⟨by rfl, ?_⟩) ?_ ?_
              rotate_left
              · intro w'
                go_simp
                with_reducible rfl
              rotate_left
              · simp only [Act.put, List.setIfInBounds_toArray, List.set_cons_zero, List.set_cons_succ, i64_w, i32_w]
                rfl
              refine pure_ (i := 5) (N := some 31) (v := ?_) (a' := ?_) #[true, true, true, true, false, true, false, false, false, false, false, false, false, false] rfl rfl (by kernel_rfl) (fun _ _ _ h => h) (Or.inl ⟨by rfl, ?_⟩) ?_ ?_
              rotate_left
              · intro w'
                go_simp
                with_reducible rfl
              rotate_left
              · simp only [Act.put, List.setIfInBounds_toArray, List.set_cons_zero, List.set_cons_succ, i64_w, i32_w]
                rfl
              refine pure_ (i := 6) (N := some 32) (v := ?_) (a' := ?_) #[true, true, true, true, false, true, true, false, false, false, false, false, false, false] rfl rfl (by kernel_rfl) (fun _ _ _ h => h) (Or.inl ⟨by rfl, ?_⟩) ?_ ?_
              rotate_left
              · intro w'
                go_simp
                with_reducible rfl
              rotate_left
              · simp only [Act.put, List.setIfInBounds_toArray, List.set_cons_zero, List.set_cons_succ, i64_w, i32_w]
                rfl
              refine pure_ (i := 7) (N := some 33) (v := ?_) (a' := ?_) #[true, true, true, true, false, true, true, true, false, false, false, false, false, false] rfl rfl (by kernel_rfl) (fun _ _ _ h => h) (Or.inl ⟨by rfl, ?_⟩) ?_ ?_
              rotate_left
              · intro w'
                go_simp
                with_reducible rfl
              rotate_left
              · simp only [Act.put, List.setIfInBounds_toArray, List.set_cons_zero, List.set_cons_succ, i64_w, i32_w]
                rfl
              refine take_ (i := 4) (N := some 30) (v := ?_) (a' := ?_) #[true, true, true, true, true, true, true, true, false, false, false, false, false, false] rfl rfl (by kernel_rfl) (fun _ _ _ h => h) (Or.inl ⟨by rfl, ?_⟩) hHeld ?_ ?_
              rotate_left
              · intro w' s0
                go_simp
                with_reducible rfl
              rotate_left
              · simp only [Act.put, List.setIfInBounds_toArray, List.set_cons_zero, List.set_cons_succ, i64_w, i32_w]
                rfl
              refine one_ (i := 8) (N := some 34) #[true, true, true, true, true, true, true, true, true, false, false, false, false, false] rfl rfl (by kernel_rfl) (by decide) (fun K hK => ?_)
              refine value_ (w1 := ?_) (v := ?_) (by rfl) rfl ?_ ?_
              rotate_left 2
              · go_simp
                constructor
                · rfl
                · rfl
              refine hK.out _ _ ((World.cell?_alloc_lt _ _ _ (World.block_lt_of_cell? _ _ hHeld)).trans hHeld) (fun hHeld => ?_)
              clear hK K
              refine norm_ (a' := ?_) ?_ ?_
              rotate_left
              · show Act.put _ (some 34) _ = _
                simp only [Act.put, List.setIfInBounds_toArray, List.set_cons_zero, List.set_cons_succ, i64_w, i32_w]
                rfl
              refine one_ (i := 9) (N := some 35) #[true, true, true, true, true, true, true, true, true, true, false, false, false, false] rfl rfl (by kernel_rfl) (by decide) (fun K hK => ?_)
              have hcv := byte_string wd (48 + (q : Int))
              refine value_ (w1 := ?_) (v := ?_) (by rfl) rfl ?_ ?_
              rotate_left 2
              · go_simp
                constructor
                · rfl
                · rfl
              refine hK.out _ _ (hHeld) (fun hHeld => ?_)
              clear hK K
              refine norm_ (a' := ?_) ?_ ?_
              rotate_left
              · show Act.put _ (some 35) _ = _
                simp only [Act.put, List.setIfInBounds_toArray, List.set_cons_zero, List.set_cons_succ, i64_w, i32_w]
                rfl
              refine pure_ (i := 10) (N := some 36) (v := ?_) (a' := ?_) #[true, true, true, true, true, true, true, true, true, true, true, false, false, false] rfl rfl (by kernel_rfl) (fun _ _ _ h => h) (Or.inl ⟨by rfl, ?_⟩) ?_ ?_
              rotate_left
              · intro w'
                go_simp
                with_reducible rfl
              rotate_left
              · simp only [Act.put, List.setIfInBounds_toArray, List.set_cons_zero, List.set_cons_succ, i64_w, i32_w]
                rfl
              refine last_ (i := 11) (N := some 37) #[true, true, true, true, true, true, true, true, true, true, true, true, false, false] rfl rfl (by kernel_rfl) (by decide) (fun K hK => ?_)
              refine value_ (w1 := ?_) (v := ?_) (by rfl) rfl ?_ ?_
              rotate_left 2
              · go_simp
                constructor
                · rfl
                · rfl
              refine hK.out _ _ ?_
              clear hK K
              refine norm_ (a' := ?_) ?_ ?_
              rotate_left
              · show Act.put _ (some 37) _ = _
                simp only [Act.put, List.setIfInBounds_toArray, List.set_cons_zero, List.set_cons_succ, i64_w, i32_w]
                rfl
              refine last_ (i := 12) (N := some 38) #[true, true, true, true, true, true, true, true, true, true, true, true, true, false] rfl rfl (by kernel_rfl) (by decide) (fun K hK => ?_)
              refine Kd.R_append_step (Kd.string) (w0 := w) w.heap.size (by rfl) (.tmp 26) (.tmp 37) 85 9 (.string ⟨#[]⟩) 16 rfl Try.underlying85 infoString rfl (by decide) (by omega) (u6) (makingW d ws j q) (s ++ strOfNums [48 + (q : Int)]) ([.string (s ++ strOfNums [48 + (q : Int)])]) (fun k_ => some k_ ≠ (Value.slice (some ad) ws.length co).ownBlock) (fun _ => False) rfl (by first | rfl | (show Value.slice (some ⟨_, 0, none⟩) 1 1 = _; simp)) ?aP (fun _ hk => hk.elim) ?aF ?aO ?aB ?aS ?aL ?_
              case aP => exact rfl
              case aF => exact fun k_ hk => Kd.fresh_ok (by (with_reducible repeat (first | apply Kd.R_alloc | apply Kd.R_drewN | apply Kd.R_drew | apply Kd.C_alloc | apply Kd.C_drewN | apply Kd.C_drew)); exact HO.out) k_ hk
              case aO => (with_reducible repeat (first | apply Kd.R_alloc | apply Kd.R_drewN | apply Kd.R_drew | apply Kd.C_alloc | apply Kd.C_drewN | apply Kd.C_drew)); exact HN.out
              case aB => repeat (first | (with_reducible first | exact HB.out | apply below_alloc | apply pw_below_drewN | apply below_drew1) | exact HB.out)
              case aS => exact below_size (by repeat (first | (with_reducible first | exact HB.out | apply below_alloc | apply pw_below_drewN | apply below_drew1) | exact HB.out))
              case aL => have := hlen.out; omega
              intro v1 w1 ho hb hg hat
              have n0_ := Aside0.mk (Kd.R_mono (Kd.R_after (ok := fun _ => True) (by (with_reducible repeat (first | apply Kd.R_alloc | apply Kd.R_drewN | apply Kd.R_drew | apply Kd.C_alloc | apply Kd.C_drewN | apply Kd.C_drew)); exact Kd.R_mono HO.out (fun _ hk => ⟨trivial, hk⟩)) hg hat) (fun _ hk => hk.2))
              have n1_ := Aside0.mk hb
              have n2_ := Aside0.mk ho
              clear HO HN HB ho hb hg hat
              have HO := n0_
              have HB := n1_
              have HN := n2_
              clear n0_ n1_ n2_
              refine hK.out _ _ ?_
              clear hK K
              refine norm_ (a' := ?_) ?_ ?_
              rotate_left
              · show Act.put _ (some 38) _ = _
                simp only [Act.put, List.setIfInBounds_toArray, List.set_cons_zero, List.set_cons_succ, i64_w, i32_w]
                rfl
              refine pure_ (i := 13) (N := some 6) (v := ?_) (a' := ?_) #[true, true, true, true, true, true, true, true, true, true, true, true, true, true] rfl rfl (by kernel_rfl) (fun _ _ _ h => h) (Or.inl ⟨by rfl, ?_⟩) ?_ ?_
              rotate_left
              · intro w'
                go_simp
                with_reducible rfl
              rotate_left
              · simp only [Act.put, List.setIfInBounds_toArray, List.set_cons_zero, List.set_cons_succ, i64_w, i32_w]
                rfl
              refine done_ (by kernel_rfl) ?_
              go_wp2
              go_roundw
              case rel => exact ⟨q + 1, by omega, by go_num, ⟨by rw [makingW_next, HS.out, ← letter_str q (by omega)]; exact HN.out⟩, HO, HB⟩
              case measure => simp [intOf]; omega
            · obtain rfl : q = d := by omega
              go_wp2
              go_roundw
              case rel => exact ⟨j + 1, by omega, by go_num, ⟨by rw [← makingW_end _ _ _ hjl]; exact HN.out⟩, HO, HB⟩
              case measure => simp [intOf]; omega
        · obtain rfl : j = ws.length := by omega
          go_wp2
          go_roundw
          case rel => exact ⟨m - 1, by omega, by first | go_num | (congr 1; omega), ⟨by rw [show n - (m - 1) = n - m + 1 by omega, wordsN, ← HWS.out]; rw [List.take_length] at HN; exact Kd.R_mono HN.out (fun _ _ => trivial)⟩, HB⟩
          case measure => simp [intOf]; omega
    · obtain rfl : m = 0 := by omega
      go_wp2
      go_ret
      exact ⟨_, rfl, HO.out, HB.out⟩
theorem specWordsS (d n : Nat) (w : World) (hd : d ≤ 3) (hn : n ≤ 8) : Calls Try.prog 118 #[.int .i64 (d : Int), .int .i64 (n : Int)] w fun e w' => ∃ A c, e = .returned (.slice A (wordsN d n).length c) ∧ Sep w w' [rowS A c (wordsN d n)] :=
  (specWords d n w hd hn).mono fun e w' h => by
    obtain ⟨v, he, hR, hb⟩ := h
    obtain ⟨A, c, rfl⟩ := Kd.R_slice hR
    exact ⟨A, c, he, Sep.one hb (Kd.R_lower hR (Nat.zero_le _)) fun k hk => Kd.R_base hR k hk⟩
end Go.Proofs.Ytibjkjhpfmmjoaa.H


namespace Go.Proofs.Ytibjkjhpfmmjoaa.H
open Go.RowKit Go.Proofs.YtibjkjhpfmmjoaaW.PrintWords Go.Proofs.YtibjkjhpfmmjoaaW.PrintLast Go.Proofs.YtibjkjhpfmmjoaaW.PrintMore Go.Proofs.Ytibjkjhpfmmjoaa.M
attribute [local go_sem] max2_int min2_int max_two min_two max_three min_three max_four min_four
set_option linter.unusedVariables false
set_option linter.unusedSimpArgs false
set_option maxRecDepth 100000
theorem Mod.str {w W : World} {S : Nat → Prop} {L : List As} (h : Mod w W S L) (i : Nat) {ad : Addr} {c : Nat} {u : List ByteArray} (hi : L[i]? = some (rowS (some ad) c u)) {j : Nat} {s : ByteArray} (hj : u[j]? = some s) : W.cell? (ad.add j) = some (.string s) := by
  obtain ⟨h1, h2⟩ := List.getElem?_eq_some_iff.1 hj
  obtain ⟨ad', e, h0⟩ := str_at (h.reads i hi) j h1
  cases e
  rwa [List.getD_eq_getElem?_getD, hj] at h0
end Go.Proofs.Ytibjkjhpfmmjoaa.H



namespace Go.Proofs.Ytibjkjhpfmmjoaa.H
open Go.RowKit Go.Proofs.YtibjkjhpfmmjoaaW.PrintWords Go.Proofs.YtibjkjhpfmmjoaaW.PrintLast Go.Proofs.YtibjkjhpfmmjoaaW.PrintMore Go.Proofs.Ytibjkjhpfmmjoaa.M
attribute [local go_sem] max2_int min2_int max_two min_two max_three min_three max_four min_four
set_option linter.unusedVariables false
set_option linter.unusedSimpArgs false
set_option maxRecDepth 100000
theorem stp_put_ix {P : Program} {ops : Array Oper} {o : Oper} {a : Act} {Q : Exit → Act → World → Prop} {Kc : Act → World → Prop} {w W : World} {S : Nat → Prop} {L : List As}
    (hw : Region.wanted o (yielded ops a.tmps) = true) (hN : o.dst = none) {ty : TypeId} {x y : Operand} (ho : o.op = .store ty x y) (HS : Aside0 (Mod w W S L)) (i : Nat) {v d n k : Nat} {f : ByteArray → Fr} (hi : L[i]? = some (tV v d n f)) (s : ByteArray) (hd : d ≤ 9) (hk : (allW d n)[k]? = some s) (c : Fr)
    (hx : a.eval x = .pointer (some ⟨v, k * 2, none⟩)) (hy : a.eval y = .agg #[.int .i64 c.1, .int .i64 c.2]) (hsz : (P.info? ty).map (·.size) = some 2) (h : ∀ w1, Aside0 (Mod w w1 S (L.set i (tV v d n (upd f s c)))) → Kc a w1) : Stp P ops Q o a W Kc :=
  stp_put_tab hw hN ho HS i hi s hd (num_at hd hk).1 (num_at hd hk).2.1 (num_at hd hk).2.2 c hx hy hsz h
set_option maxHeartbeats 8000000 in
theorem implSum_true (g1 v1 g2 v2 d n : Nat) (bad2 : Bool) (f1 f2 : ByteArray → Fr) (w : World) (hl : lev d n = true) (ht1 : (tS g1 v1 d n (nW d n) true).I w) (hv1 : (tV v1 d n f1).I w) (ht2 : (tS g2 v2 d n (nW d n) bad2).I w) (hv2 : (tV v2 d n f2).I w) (hf1 : good f1) (hf2 : good f2) :
    Calls Try.prog 98 #[.pointer (some ⟨g1, 0, none⟩), .pointer (some ⟨g2, 0, none⟩)] w fun e w' =>
      ∃ g' v', e = .returned (.pointer (some ⟨g', 0, none⟩)) ∧ Sep w w' [tS g' v' d n (nW d n) (mapT d n (fun s => add (f1 s) (f2 s)) true (nW d n)).2, tV v' d n (mapT d n (fun s => add (f1 s) (f2 s)) true (nW d n)).1] := by
  obtain ⟨hd1, hd3, hn1, hn5⟩ := lev_bd hl
  have hNl := nW_le hl
  have HT1 := Aside0.mk ht1
  have HV1 := Aside0.mk hv1
  have HT2 := Aside0.mk ht2
  have HV2 := Aside0.mk hv2
  have HL := Aside0.mk hl
  have HF1 := Aside0.mk hf1
  have HF2 := Aside0.mk hf2
  have HG := Aside0.mk (fun k (h : k < nW d n) => (⟨_, List.getElem?_eq_getElem h⟩ : ∃ s, (allW d n)[k]? = some s))
  clear ht1 hv1 ht2 hv2 hl hf1 hf2
  have CK := fun g W h => implLike g v1 d n (nW d n) true W HL.out h
  have HCK := Aside0.mk CK
  clear CK
  obtain ⟨N, hN⟩ : ∃ N, N = nW d n := ⟨_, rfl⟩
  rw [← hN] at HT1 HT2 HG hNl HCK
  rw [← hN]
  clear hN
  obtain ⟨h, hh⟩ : ∃ h : ByteArray → Option Fr, h = fun s => add (f1 s) (f2 s) := ⟨_, rfl⟩
  rw [← hh]
  have HH := Aside0.mk hh
  clear hh
  have HS := Aside0.mk (Sep.refl w)
  go_enter Try.func98, Try.ntmps98
  go_wp2_with (first | (go_at_call 114; refine (HCK.out _ _ (HS.out.oldI HT1.out)).mono ?_; rintro e_ w1 ⟨g', v', rfl, hs⟩; replace HS := sN2 HS hs; clear hs; have f1_ := bx_c (HS.out.oldI HT1.out) 3 (v := .bool true) rfl) | ((with_reducible refine gate_store (t := 4) (p := 22) rfl ?_); refine stL HS 0 3 #[.int .i64 (d : Int), .int .i64 (n : Int), .slice (some ⟨v', 0, none⟩) N N, (.bool true)] rfl rfl rfl rfl rfl ?_; clear HS f1_; intro w1 HS; have f1_ := bx_c (HS.out.oldI HT1.out) 2 (v := .slice (some ⟨v1, 0, none⟩) N N) rfl))
  go_loopw [28] (fun q w' => ∃ (i : Nat) (F : Tb), i ≤ N ∧ q = .int .i64 (i : Int) ∧ Aside0 (F = mapT d n h true i) ∧ Aside0 (Mod w w' No [bx g' 92 #[.int .i64 (d : Int), .int .i64 (n : Int), .slice (some ⟨v', 0, none⟩) N N, .bool F.2], tV v' d n F.1])) (fun q _ => N - (intOf q).toNat)
  case atStart => exact ⟨0, ((fun _ => (0, 1)), true), by omega, rfl, ⟨rfl⟩, HS⟩
  case round =>
    clear HS
    obtain ⟨i, F, hi, rfl, HM, HS⟩ := hrel
    by_cases hlt : i < N
    · obtain ⟨s, hs⟩ := HG.out i hlt
      have HE := Aside0.mk hs
      have HP := Aside0.mk (fun W => (congrFun HH.out s) ▸ implPlusF (f1 s) (f2 s) W (HF1.out s) (HF2.out s))
      clear hs
      have hq0 : (0 : Int) ≤ i := by omega
      have f1_ := (tab_ix (HS.out.oldI HV1.out) HE.out).1
      have f2_ := (tab_ix (HS.out.oldI HV1.out) HE.out).2
      go_wp2_with (first | ((with_reducible refine gate_dst (N := 7) rfl ?_); refine bxL 34 #[(.int .i64 0), (.int .i64 0)] HS ?_; clear HS f1_ f2_; intro g_y w1 hg_y HS) | ((with_reducible refine gate_store (t := 34) (p := 7) rfl ?_); refine stL HS 0 0 #[.int .i64 (f1 s).1, .int .i64 (f1 s).2] rfl rfl rfl rfl rfl ?_; clear HS; intro w1 HS))
      replace HS := sD HS
      refine ps (.p 0 (.p 1 (.p 2 (.p 4 (.p 5 (.p 7 (.p 8 (.p 9 (.p 11 (.t 3 (.t 6 (.t 10 (.p 12 (.t 13 (.e 14 (.p 15 (.p 16 (.e 17 (.p 18 (.d 19 .done)))))))))))))))))))) (fun w' => w'.cell? ⟨g', 2, none⟩ = some (.slice (some ⟨v', 0, none⟩) N N) ∧ w'.cell? ⟨g_y, 0, none⟩ = some (.int .i64 (f1 s).1) ∧ w'.cell? ⟨g_y, 1, none⟩ = some (.int .i64 (f1 s).2) ∧ w'.cell? ⟨g2, 2, none⟩ = some (.slice (some ⟨v2, 0, none⟩) N N) ∧ w'.cell? ⟨v2, i * 2, none⟩ = some (.int .i64 (f2 s).1) ∧ w'.cell? ⟨v2, i * 2 + 1, none⟩ = some (.int .i64 (f2 s).2)) [19] ⟨HS.out.c 1 2 (v := .slice (some ⟨v', 0, none⟩) N N) rfl rfl, HS.out.c 0 0 (v := .int .i64 (f1 s).1) rfl rfl, HS.out.c 0 1 (v := .int .i64 (f1 s).2) rfl rfl, bx_c (HS.out.oldI HT2.out) 2 (v := .slice (some ⟨v2, 0, none⟩) N N) rfl, (tab_ix (HS.out.oldI HV2.out) HE.out).1, (tab_ix (HS.out.oldI HV2.out) HE.out).2⟩ (fun hHeld => ?_)
      repeat (first | ((with_reducible refine gate_p ?_); refine rp rfl rfl ?_) | ((with_reducible refine gate_t ?_); refine rt rfl rfl hHeld ?_))
      refine run_e rfl (fun K hK => ?_)
      refine gc Try.func135 (HP.out _) rfl rfl ?_
      rintro e_ w1 ⟨x, y, hxy, rfl, hb⟩
      refine ⟨_, rfl, ?_⟩
      replace HS := sB HS hb
      clear hb
      refine ge hK ⟨HS.out.c 1 2 (v := .slice (some ⟨v', 0, none⟩) N N) rfl rfl, HS.out.c 0 0 (v := .int .i64 (f1 s).1) rfl rfl, HS.out.c 0 1 (v := .int .i64 (f1 s).2) rfl rfl, bx_c (HS.out.oldI HT2.out) 2 (v := .slice (some ⟨v2, 0, none⟩) N N) rfl, (tab_ix (HS.out.oldI HV2.out) HE.out).1, (tab_ix (HS.out.oldI HV2.out) HE.out).2⟩ (fun hHeld => ?_)
      clear hK K
      repeat (first | ((with_reducible refine gate_p ?_); refine rp rfl rfl ?_) | ((with_reducible refine gate_t ?_); refine rt rfl rfl hHeld ?_))
      refine run_e rfl (fun K hK => ?_)
      refine gc Try.func128 (implCheckO g' v' d n N F.2 (h s) x y hxy _ (HS.out.at (i := 1) rfl)) rfl rfl ?_
      rintro e_ w1 ⟨rfl, hs⟩
      refine ⟨_, rfl, ?_⟩
      replace HS : Aside0 (Mod _ _ _ [_, _, _]) := sM1 HS 1 [0, 2] rfl hs
      clear hs
      refine ge hK ⟨HS.out.c 0 2 (v := .slice (some ⟨v', 0, none⟩) N N) rfl rfl, HS.out.c 1 0 (v := .int .i64 (f1 s).1) rfl rfl, HS.out.c 1 1 (v := .int .i64 (f1 s).2) rfl rfl, bx_c (HS.out.oldI HT2.out) 2 (v := .slice (some ⟨v2, 0, none⟩) N N) rfl, (tab_ix (HS.out.oldI HV2.out) HE.out).1, (tab_ix (HS.out.oldI HV2.out) HE.out).2⟩ (fun hHeld => ?_)
      clear hK K
      repeat (first | ((with_reducible refine gate_p ?_); refine rp rfl rfl ?_) | ((with_reducible refine gate_t ?_); refine rt rfl rfl hHeld ?_))
      refine run_d rfl (fun K hK => ?_)
      refine stp_put_ix (by rfl) rfl rfl HS 2 rfl s (by omega) HE.out (orZ (h s)) rfl rfl (by kernel_rfl) ?_
      clear HS
      intro w1 HS
      simp only [List.set_cons_zero, List.set_cons_succ] at HS
      refine goD hK rfl ?_
      clear hK K
      refine run_done ?_
      clear hHeld
      go_wp2
      replace HS : Aside0 (Mod _ _ _ [_, _]) := sX HS [0, 2]
      go_roundw
      case rel => exact ⟨i + 1, mapS h F s, by omega, by go_num, ⟨by rw [mapT_succ HE.out, HM.out]⟩, HS⟩
      case measure => simp [intOf]; omega
    · obtain rfl : i = N := by omega
      go_wp2
      go_ret
      obtain rfl := HM.out
      exact ⟨g', v', rfl, HS.out⟩
set_option maxHeartbeats 8000000 in
theorem implSum_false (g1 v1 g2 v2 d n : Nat) (bad2 : Bool) (f1 f2 : ByteArray → Fr) (w : World) (hl : lev d n = true) (ht1 : (tS g1 v1 d n (nW d n) false).I w) (hv1 : (tV v1 d n f1).I w) (ht2 : (tS g2 v2 d n (nW d n) bad2).I w) (hv2 : (tV v2 d n f2).I w) (hf1 : good f1) (hf2 : good f2) :
    Calls Try.prog 98 #[.pointer (some ⟨g1, 0, none⟩), .pointer (some ⟨g2, 0, none⟩)] w fun e w' =>
      ∃ g' v', e = .returned (.pointer (some ⟨g', 0, none⟩)) ∧ Sep w w' [tS g' v' d n (nW d n) (mapT d n (fun s => add (f1 s) (f2 s)) bad2 (nW d n)).2, tV v' d n (mapT d n (fun s => add (f1 s) (f2 s)) bad2 (nW d n)).1] := by
  obtain ⟨hd1, hd3, hn1, hn5⟩ := lev_bd hl
  have hNl := nW_le hl
  have HT1 := Aside0.mk ht1
  have HV1 := Aside0.mk hv1
  have HT2 := Aside0.mk ht2
  have HV2 := Aside0.mk hv2
  have HL := Aside0.mk hl
  have HF1 := Aside0.mk hf1
  have HF2 := Aside0.mk hf2
  have HG := Aside0.mk (fun k (h : k < nW d n) => (⟨_, List.getElem?_eq_getElem h⟩ : ∃ s, (allW d n)[k]? = some s))
  clear ht1 hv1 ht2 hv2 hl hf1 hf2
  have CK := fun g W h => implLike g v1 d n (nW d n) false W HL.out h
  have HCK := Aside0.mk CK
  clear CK
  obtain ⟨N, hN⟩ : ∃ N, N = nW d n := ⟨_, rfl⟩
  rw [← hN] at HT1 HT2 HG hNl HCK
  rw [← hN]
  clear hN
  obtain ⟨h, hh⟩ : ∃ h : ByteArray → Option Fr, h = fun s => add (f1 s) (f2 s) := ⟨_, rfl⟩
  rw [← hh]
  have HH := Aside0.mk hh
  clear hh
  have HS := Aside0.mk (Sep.refl w)
  go_enter Try.func98, Try.ntmps98
  go_wp2_with (first | (go_at_call 114; refine (HCK.out _ _ (HS.out.oldI HT1.out)).mono ?_; rintro e_ w1 ⟨g', v', rfl, hs⟩; replace HS := sN2 HS hs; clear hs; have f1_ := bx_c (HS.out.oldI HT1.out) 3 (v := .bool false) rfl; have f2_ := bx_c (HS.out.oldI HT2.out) 3 (v := .bool bad2) rfl) | ((with_reducible refine gate_store (t := 4) (p := 22) rfl ?_); refine stL HS 0 3 #[.int .i64 (d : Int), .int .i64 (n : Int), .slice (some ⟨v', 0, none⟩) N N, (.bool bad2)] rfl rfl rfl rfl rfl ?_; clear HS f1_ f2_; intro w1 HS; have f1_ := bx_c (HS.out.oldI HT1.out) 2 (v := .slice (some ⟨v1, 0, none⟩) N N) rfl))
  go_loopw [28] (fun q w' => ∃ (i : Nat) (F : Tb), i ≤ N ∧ q = .int .i64 (i : Int) ∧ Aside0 (F = mapT d n h bad2 i) ∧ Aside0 (Mod w w' No [bx g' 92 #[.int .i64 (d : Int), .int .i64 (n : Int), .slice (some ⟨v', 0, none⟩) N N, .bool F.2], tV v' d n F.1])) (fun q _ => N - (intOf q).toNat)
  case atStart => exact ⟨0, ((fun _ => (0, 1)), bad2), by omega, rfl, ⟨rfl⟩, HS⟩
  case round =>
    clear HS
    obtain ⟨i, F, hi, rfl, HM, HS⟩ := hrel
    by_cases hlt : i < N
    · obtain ⟨s, hs⟩ := HG.out i hlt
      have HE := Aside0.mk hs
      have HP := Aside0.mk (fun W => (congrFun HH.out s) ▸ implPlusF (f1 s) (f2 s) W (HF1.out s) (HF2.out s))
      clear hs
      have hq0 : (0 : Int) ≤ i := by omega
      have f1_ := (tab_ix (HS.out.oldI HV1.out) HE.out).1
      have f2_ := (tab_ix (HS.out.oldI HV1.out) HE.out).2
      go_wp2_with (first | ((with_reducible refine gate_dst (N := 7) rfl ?_); refine bxL 34 #[(.int .i64 0), (.int .i64 0)] HS ?_; clear HS f1_ f2_; intro g_y w1 hg_y HS) | ((with_reducible refine gate_store (t := 34) (p := 7) rfl ?_); refine stL HS 0 0 #[.int .i64 (f1 s).1, .int .i64 (f1 s).2] rfl rfl rfl rfl rfl ?_; clear HS; intro w1 HS))
      replace HS := sD HS
      refine ps (.p 0 (.p 1 (.p 2 (.p 4 (.p 5 (.p 7 (.p 8 (.p 9 (.p 11 (.t 3 (.t 6 (.t 10 (.p 12 (.t 13 (.e 14 (.p 15 (.p 16 (.e 17 (.p 18 (.d 19 .done)))))))))))))))))))) (fun w' => w'.cell? ⟨g', 2, none⟩ = some (.slice (some ⟨v', 0, none⟩) N N) ∧ w'.cell? ⟨g_y, 0, none⟩ = some (.int .i64 (f1 s).1) ∧ w'.cell? ⟨g_y, 1, none⟩ = some (.int .i64 (f1 s).2) ∧ w'.cell? ⟨g2, 2, none⟩ = some (.slice (some ⟨v2, 0, none⟩) N N) ∧ w'.cell? ⟨v2, i * 2, none⟩ = some (.int .i64 (f2 s).1) ∧ w'.cell? ⟨v2, i * 2 + 1, none⟩ = some (.int .i64 (f2 s).2)) [19] ⟨HS.out.c 1 2 (v := .slice (some ⟨v', 0, none⟩) N N) rfl rfl, HS.out.c 0 0 (v := .int .i64 (f1 s).1) rfl rfl, HS.out.c 0 1 (v := .int .i64 (f1 s).2) rfl rfl, bx_c (HS.out.oldI HT2.out) 2 (v := .slice (some ⟨v2, 0, none⟩) N N) rfl, (tab_ix (HS.out.oldI HV2.out) HE.out).1, (tab_ix (HS.out.oldI HV2.out) HE.out).2⟩ (fun hHeld => ?_)
      repeat (first | ((with_reducible refine gate_p ?_); refine rp rfl rfl ?_) | ((with_reducible refine gate_t ?_); refine rt rfl rfl hHeld ?_))
      refine run_e rfl (fun K hK => ?_)
      refine gc Try.func135 (HP.out _) rfl rfl ?_
      rintro e_ w1 ⟨x, y, hxy, rfl, hb⟩
      refine ⟨_, rfl, ?_⟩
      replace HS := sB HS hb
      clear hb
      refine ge hK ⟨HS.out.c 1 2 (v := .slice (some ⟨v', 0, none⟩) N N) rfl rfl, HS.out.c 0 0 (v := .int .i64 (f1 s).1) rfl rfl, HS.out.c 0 1 (v := .int .i64 (f1 s).2) rfl rfl, bx_c (HS.out.oldI HT2.out) 2 (v := .slice (some ⟨v2, 0, none⟩) N N) rfl, (tab_ix (HS.out.oldI HV2.out) HE.out).1, (tab_ix (HS.out.oldI HV2.out) HE.out).2⟩ (fun hHeld => ?_)
      clear hK K
      repeat (first | ((with_reducible refine gate_p ?_); refine rp rfl rfl ?_) | ((with_reducible refine gate_t ?_); refine rt rfl rfl hHeld ?_))
      refine run_e rfl (fun K hK => ?_)
      refine gc Try.func128 (implCheckO g' v' d n N F.2 (h s) x y hxy _ (HS.out.at (i := 1) rfl)) rfl rfl ?_
      rintro e_ w1 ⟨rfl, hs⟩
      refine ⟨_, rfl, ?_⟩
      replace HS : Aside0 (Mod _ _ _ [_, _, _]) := sM1 HS 1 [0, 2] rfl hs
      clear hs
      refine ge hK ⟨HS.out.c 0 2 (v := .slice (some ⟨v', 0, none⟩) N N) rfl rfl, HS.out.c 1 0 (v := .int .i64 (f1 s).1) rfl rfl, HS.out.c 1 1 (v := .int .i64 (f1 s).2) rfl rfl, bx_c (HS.out.oldI HT2.out) 2 (v := .slice (some ⟨v2, 0, none⟩) N N) rfl, (tab_ix (HS.out.oldI HV2.out) HE.out).1, (tab_ix (HS.out.oldI HV2.out) HE.out).2⟩ (fun hHeld => ?_)
      clear hK K
      repeat (first | ((with_reducible refine gate_p ?_); refine rp rfl rfl ?_) | ((with_reducible refine gate_t ?_); refine rt rfl rfl hHeld ?_))
      refine run_d rfl (fun K hK => ?_)
      refine stp_put_ix (by rfl) rfl rfl HS 2 rfl s (by omega) HE.out (orZ (h s)) rfl rfl (by kernel_rfl) ?_
      clear HS
      intro w1 HS
      simp only [List.set_cons_zero, List.set_cons_succ] at HS
      refine goD hK rfl ?_
      clear hK K
      refine run_done ?_
      clear hHeld
      go_wp2
      replace HS : Aside0 (Mod _ _ _ [_, _]) := sX HS [0, 2]
      go_roundw
      case rel => exact ⟨i + 1, mapS h F s, by omega, by go_num, ⟨by rw [mapT_succ HE.out, HM.out]⟩, HS⟩
      case measure => simp [intOf]; omega
    · obtain rfl : i = N := by omega
      go_wp2
      go_ret
      obtain rfl := HM.out
      exact ⟨g', v', rfl, HS.out⟩
theorem implSum (g1 v1 g2 v2 d n : Nat) (bad1 bad2 : Bool) (f1 f2 : ByteArray → Fr) (w : World) (hl : lev d n = true) (ht1 : (tS g1 v1 d n (nW d n) bad1).I w) (hv1 : (tV v1 d n f1).I w) (ht2 : (tS g2 v2 d n (nW d n) bad2).I w) (hv2 : (tV v2 d n f2).I w) (hf1 : good f1) (hf2 : good f2) :
    Calls Try.prog 98 #[.pointer (some ⟨g1, 0, none⟩), .pointer (some ⟨g2, 0, none⟩)] w fun e w' =>
      ∃ g' v', e = .returned (.pointer (some ⟨g', 0, none⟩)) ∧ Sep w w' [tS g' v' d n (nW d n) (mapT d n (fun s => add (f1 s) (f2 s)) (bad1 || bad2) (nW d n)).2, tV v' d n (mapT d n (fun s => add (f1 s) (f2 s)) (bad1 || bad2) (nW d n)).1] := by
  cases bad1 with
  | true => exact implSum_true g1 v1 g2 v2 d n bad2 f1 f2 w hl ht1 hv1 ht2 hv2 hf1 hf2
  | false => exact implSum_false g1 v1 g2 v2 d n bad2 f1 f2 w hl ht1 hv1 ht2 hv2 hf1 hf2
end Go.Proofs.Ytibjkjhpfmmjoaa.H



namespace Go.Proofs.Ytibjkjhpfmmjoaa.H
open Go.RowKit Go.Proofs.YtibjkjhpfmmjoaaW.PrintWords Go.Proofs.YtibjkjhpfmmjoaaW.PrintLast Go.Proofs.YtibjkjhpfmmjoaaW.PrintMore Go.Proofs.Ytibjkjhpfmmjoaa.M
attribute [local go_sem] max2_int min2_int max_two min_two max_three min_three max_four min_four
set_option linter.unusedVariables false
set_option linter.unusedSimpArgs false
set_option maxRecDepth 100000
abbrev shN (v w u : ByteArray) : Nat := sh (bl v) (bl w) (bl u)
theorem specNum (v w u : ByteArray) (W : World) (hv : v.size ≤ 16) (hw : w.size ≤ 16) (hu : u.size ≤ 16) : Calls Try.prog 92 #[.string v, .string w, .string u] W fun e w' => e = .returned (.int .i64 ((shN v w u : Nat) : Int)) ∧ Below W.heap.size W w' :=
  quietB (specNumber u.size v w u W rfl hv hw hu)
theorem shN_le {v w u : ByteArray} (hu : u.size ≤ 16) : shN v w u ≤ 65536 := by
  have h := sh_le (bl u) (bl v) (bl w)
  rw [bl_len] at h
  exact Nat.le_trans h (Nat.pow_le_pow_right (n := 2) (by omega) hu)
theorem filter_snoc {l : List ByteArray} {i : Nat} {s : ByteArray} (p : ByteArray → Bool) (h : l[i]? = some s) : (l.take (i + 1)).filter p = (l.take i).filter p ++ (if p s = true then [s] else []) := by
  rw [List.take_add_one, h, List.filter_append]
  congr 1
  show List.filter p [s] = _
  by_cases hp : p s = true <;> simp [hp]
set_option maxHeartbeats 8000000 in
theorem specShW (d : Nat) (v w : ByteArray) (W : World) (hd : d ≤ 3) (hn : v.size + w.size ≤ 8) : Calls Try.prog 91 #[.int .i64 (d : Int), .string v, .string w] W fun e w' => ∃ A c, e = .returned (.slice A (shW d v w).length c) ∧ Sep W w' [rowS A c (shW d v w)] := by
  have hul := wordsN_le (d := d) (n := v.size + w.size) hd hn
  have HWD := Aside0.mk (fun X => specWordsS d (v.size + w.size) X hd hn)
  have HSZ := Aside0.mk (fun (i : Nat) (s : ByteArray) (h : (wordsN d (v.size + w.size))[i]? = some s) => (wordsN_size (List.mem_of_getElem? h) : s.size = v.size + w.size))
  have HSH := Aside0.mk (show shW d v w = ((wordsN d (v.size + w.size)).take (wordsN d (v.size + w.size)).length).filter fun u => decide (0 < shN v w u) by rw [List.take_length]; rfl)
  obtain ⟨l, hl⟩ : ∃ l, l = wordsN d (v.size + w.size) := ⟨_, rfl⟩
  rw [← hl] at hul HWD HSZ HSH
  clear hl
  have HS := Aside0.mk (Sep.refl W)
  go_enter Try.func91, Try.ntmps91
  go_wp2_with (first | (go_at_call 118; refine (HWD.out _).mono ?_; rintro e_ w1 ⟨B1, b1, rfl, hs⟩; replace HS := sN1 HS hs; clear hs) | ((with_reducible refine gate_dst (N := 17) rfl ?_); refine wpList_stp (fun K hK => ?_); refine stp_lit (Kd.string) rfl 9 (by rfl) HS (xs := ([] : List ByteArray)) (inner := []) (by first | (go_simp; done) | (go_simp; rfl)) (fun W base ok => Reps.none _ _) (by simp) ?_; clear HS; intro A_o c_o w1 HS; refine hK _ _ ?_; clear hK K))
  go_loopw [8, 9] (fun x q w' => ∃ (i : Nat) (A : Option Addr) (c : Nat) (y : List ByteArray), i ≤ l.length ∧ q = .int .i64 (i : Int) ∧ x = .slice A y.length c ∧ Aside0 (y = (l.take i).filter fun u => decide (0 < shN v w u)) ∧ Aside0 (Mod W w' No [rowS A c y, rowS B1 b1 l])) (fun _ q _ => l.length - (intOf q).toNat)
  case atStart => exact ⟨0, A_o, c_o, [], by omega, rfl, rfl, ⟨rfl⟩, HS⟩
  case round =>
    clear HS
    obtain ⟨i, A, c, y, hi, rfl, rfl, HY, HS⟩ := hrel
    by_cases hlt : i < l.length
    · obtain ⟨ad, ea, h_⟩ := str_at (HS.out.reads 1 rfl) i hlt
      clear h_
      cases ea
      obtain ⟨s, hs⟩ : ∃ s, l[i]? = some s := ⟨_, List.getElem?_eq_getElem hlt⟩
      have HE := Aside0.mk hs
      have hsz : s.size ≤ 8 := by have := HSZ.out i s hs; omega
      have HF := Aside0.mk (filter_snoc (fun u => decide (0 < shN v w u)) hs)
      have hyl : y.length ≤ 6561 := by rw [HY.out]; exact Nat.le_trans (List.length_filter_le _ _) (by rw [List.length_take]; omega)
      have HNB := Aside0.mk (fun X => specNum v w s X (by omega) (by omega) (by omega))
      obtain ⟨m, hm⟩ : ∃ m, m = shN v w s := ⟨_, rfl⟩
      rw [← hm] at HNB HF
      clear hs hm
      by_cases h0 : 0 < m
      · have HF2 := Aside0.mk (HF.out.trans (by rw [if_pos (by simpa using h0)]))
        have f1_ := HS.out.str 1 rfl HE.out
        go_wp2_with (first | (go_at_call 92; refine (HNB.out _).mono ?_; rintro e_ w1 ⟨rfl, hb⟩; replace HS := sB HS hb; clear hb f1_; have f1_ := HS.out.str 1 rfl HE.out) | ((with_reducible refine gate_builtin (b := .append) (xs := #[.tmp 32, .tmp 37]) rfl ?_); at_builtin; refine wpList_stp (fun K hK => ?_); refine stp_app (Kd.string) rfl (by rfl) HS 0 rfl (.tmp 32) (.tmp 37) 85 9 (.string ⟨#[]⟩) 16 rfl Try.underlying85 infoString (by kernel_rfl) (s) [.string s] rfl (by first | rfl | (show Value.slice (some ⟨_, 0, none⟩) 1 1 = _; simp)) (str_M _) (by omega) ?_; clear HS f1_; intro A_z' c_z' z' w1 Nz' HS; simp only [List.set_cons_zero, List.set_cons_succ] at HS; refine hK _ _ ?_; clear hK K))
        go_roundw
        case rel => exact ⟨i + 1, A_z', c_z', z', by omega, by go_num, rfl, ⟨by rw [Nz'.out, HF2.out, HY.out]⟩, HS⟩
        case measure => simp [intOf]; omega
      · have HF2 := Aside0.mk (HF.out.trans (by rw [if_neg (by simpa using h0), List.append_nil]))
        have f1_ := HS.out.str 1 rfl HE.out
        go_wp2_with (first | (go_at_call 92; refine (HNB.out _).mono ?_; rintro e_ w1 ⟨rfl, hb⟩; replace HS := sB HS hb; clear hb f1_))
        go_roundw
        case rel => exact ⟨i + 1, A, c, y, by omega, by go_num, rfl, ⟨by rw [HF2.out, HY.out]⟩, HS⟩
        case measure => simp [intOf]; omega
    · obtain rfl : i = l.length := by omega
      go_wp2
      go_ret
      obtain rfl := HY.out.trans HSH.out.symm
      exact ⟨A, c, rfl, HS.out.sel [0] (by decide)⟩
set_option maxHeartbeats 8000000 in
theorem implTimesW (a : Fr) (m : Nat) (w : World) (ha : fr a = true) (hm : m ≤ 65536) : Calls Try.prog 131 #[.agg #[.int .i64 a.1, .int .i64 a.2], .int .i64 (m : Int)] w fun e w' =>
    ∃ x y : Int, (∀ c, mul a ((m : Nat), 1) = some c → c = (x, y)) ∧ e = .returned (.tuple #[.agg #[.int .i64 x, .int .i64 y], .bool (mul a ((m : Nat), 1)).isSome]) ∧ Below w.heap.size w w' := by
  have HS := Aside0.mk (Sep.refl w)
  have hden := fr_den ha
  have hsm := fr_small ha
  unfold small at hsm
  by_cases h0 : m = 0 ∨ a.1 = 0
  · have hz : mul a ((m : Nat), 1) = some (0, 1) := mul_whole0 ha (by omega)
    rw [hz]
    by_cases hm0 : m = 0
    · have hb0 : ((m : Int) == 0) = true := by rw [hm0]; rfl
      clear h0 hz hm0
      go_enter Try.func131, Try.ntmps131
      go_wp2_with (first | ((with_reducible refine gate_dst (N := 2) rfl ?_); refine bxL 34 #[.int .i64 a.1, .int .i64 a.2] HS ?_; clear HS; intro g_p w1 hg_p HS) | ((with_reducible refine gate_dst (N := 4) rfl ?_); refine bxL 34 #[(.int .i64 0), (.int .i64 0)] HS ?_; clear HS; intro g_r w1 hg_r HS) | (go_at_call 126; refine (implZero _).mono ?_; rintro e_ w1 ⟨rfl, hb⟩; replace HS := sB HS hb; clear hb) | ((with_reducible refine gate_store (t := 34) (p := 4) rfl ?_); refine stL HS 0 0 #[.int .i64 0, .int .i64 1] rfl rfl rfl rfl rfl ?_; clear HS; intro w1 HS))
      refine bodyPost_ret (results_cell_tmp_row rfl _ _ g_r 34 #[.int .i64 0, .int .i64 1] (0, 0) _ rfl (HS.out.at (i := 0) rfl) Try.underlying34 rfl (by kernel_rfl)) rfl ?_
      exact ⟨0, 1, fun c hc => (Option.some.inj hc).symm, rfl, HS.out.below⟩
    · have hb0 : ((m : Int) == 0) = false := by rw [beq_eq_false_iff_ne]; omega
      have hb1 : (a.1 == 0) = true := by rw [beq_iff_eq]; omega
      clear h0 hz hm0
      go_enter Try.func131, Try.ntmps131
      go_wp2_with (first | ((with_reducible refine gate_dst (N := 2) rfl ?_); refine bxL 34 #[.int .i64 a.1, .int .i64 a.2] HS ?_; clear HS; intro g_p w1 hg_p HS) | ((with_reducible refine gate_dst (N := 4) rfl ?_); refine bxL 34 #[(.int .i64 0), (.int .i64 0)] HS ?_; clear HS; intro g_r w1 hg_r HS; have f1_ := HS.out.c 1 0 (v := .int .i64 a.1) rfl rfl) | (go_at_call 126; refine (implZero _).mono ?_; rintro e_ w1 ⟨rfl, hb⟩; replace HS := sB HS hb; clear hb f1_) | ((with_reducible refine gate_store (t := 34) (p := 4) rfl ?_); refine stL HS 0 0 #[.int .i64 0, .int .i64 1] rfl rfl rfl rfl rfl ?_; clear HS; intro w1 HS))
      refine bodyPost_ret (results_cell_tmp_row rfl _ _ g_r 34 #[.int .i64 0, .int .i64 1] (0, 0) _ rfl (HS.out.at (i := 0) rfl) Try.underlying34 rfl (by kernel_rfl)) rfl ?_
      exact ⟨0, 1, fun c hc => (Option.some.inj hc).symm, rfl, HS.out.below⟩
  · have hb0 : ((m : Int) == 0) = false := by rw [beq_eq_false_iff_ne]; omega
    have hb1 : (a.1 == 0) = false := by rw [beq_eq_false_iff_ne]; omega
    obtain ⟨g, hg⟩ : ∃ g : Int, g = (Int.gcd (m : Int) a.2 : Int) := ⟨_, rfl⟩
    have hgp : 0 < g := by rw [hg]; exact gcd_pos (by omega)
    have hgm : g ∣ (m : Int) := by rw [hg]; exact Int.gcd_dvd_left ..
    have hga : g ∣ a.2 := by rw [hg]; exact Int.gcd_dvd_right ..
    obtain ⟨x, hx⟩ := hgm
    obtain ⟨y, hy⟩ := hga
    have hx1 : Int.tdiv (m : Int) g = x := by rw [hx]; exact Int.mul_tdiv_cancel_left _ (by omega)
    have hy1 : Int.tdiv a.2 g = y := by rw [hy]; exact Int.mul_tdiv_cancel_left _ (by omega)
    have hmx : 0 ≤ x ∧ x ≤ 65536 := by
      have h1 : x = (m : Int) / g := by rw [hx]; exact (Int.mul_ediv_cancel_left _ (by omega)).symm
      have h2 : (m : Int) / g ≤ (m : Int) := Int.ediv_le_self _ (by omega)
      have h3 : 0 ≤ (m : Int) / g := Int.ediv_nonneg (by omega) (by omega)
      omega
    have hmy : 1 ≤ y ∧ y ≤ 1000000000 := by
      have h1 : y = a.2 / g := by rw [hy]; exact (Int.mul_ediv_cancel_left _ (by omega)).symm
      have h2 : a.2 / g ≤ a.2 := Int.ediv_le_self _ (by omega)
      have h3 : 1 ≤ a.2 / g := by
        rw [← h1]
        by_cases hy0 : y ≤ 0
        · exfalso
          have := Int.mul_nonpos_of_nonneg_of_nonpos (a := g) (b := y) (by omega) hy0
          omega
        · omega
      omega
    have hxa : -65536000000000 ≤ a.1 * x ∧ a.1 * x ≤ 65536000000000 := by
      have := mul_abs (a := a.1) (b := x) (m := 1000000000) (n := 65536) (by omega) (by omega)
      omega
    have HM := Aside0.mk (show mul a ((m : Nat), 1) = frac (a.1 * x) y by rw [← mul_whole (a := a) (n := (m : Int)) (g := g) hgp ⟨x, hx⟩ ⟨y, hy⟩, hx1, hy1])
    have HGC := Aside0.mk (fun W => hg ▸ quietB (implGcd (m : Int) a.2 W (by omega) (by omega) (by omega) (by omega)))
    have hup : inR x (-1000000000) 1000000000 = true := (inR_iff _ _ _).2 (by omega)
    have HUP := Aside0.mk (fun W => (hup ▸ quietB (implUp x 1000000000 W (by omega) (by omega)) : Calls Try.prog 133 #[.int .i64 x, .int .i64 1000000000] W fun e w' => e = .returned (.bool true) ∧ Below W.heap.size W w'))
    have HRD := Aside0.mk (fun W => implReduced (a.1 * x) y W (by omega) (by omega) (by omega) (by omega) (by omega))
    have hg0 : ¬ (g = 0) := by omega
    have hqx := (i64_w x).trans (wrap_id (x := x) (by omega) (by omega))
    have hqy := (i64_w y).trans (wrap_id (x := y) (by omega) (by omega))
    have hw1 : wrap64 (a.1 * x) = a.1 * x := wrap_id (by omega) (by omega)
    have hw2 := (i64_w _).trans hw1
    have HOK := Aside0.mk (show frac (a.1 * x) y = (if okN (a.1 * x) y = true then some (rnum (a.1 * x) y, rden (a.1 * x) y) else none) by
      unfold frac
      by_cases hk : okN (a.1 * x) y = true
      · rw [if_pos ⟨by omega, hk⟩, if_pos hk]
      · rw [if_neg (fun h => hk h.2), if_neg hk])
    have hgne : (g == 0) = false := by rw [beq_eq_false_iff_ne]; omega
    clear hg hx hy h0
    go_enter Try.func131, Try.ntmps131
    go_wp2_with (first | ((with_reducible refine gate_dst (N := 2) rfl ?_); refine bxL 34 #[.int .i64 a.1, .int .i64 a.2] HS ?_; clear HS; intro g_p w1 hg_p HS) | ((with_reducible refine gate_dst (N := 4) rfl ?_); refine bxL 34 #[(.int .i64 0), (.int .i64 0)] HS ?_; clear HS; intro g_r w1 hg_r HS; have f1_ := HS.out.c 1 0 (v := .int .i64 a.1) rfl rfl; have f2_ := HS.out.c 1 1 (v := .int .i64 a.2) rfl rfl) | (go_at_call 134; refine (HGC.out _).mono ?_; rintro e_ w1 ⟨rfl, hb⟩; replace HS := sB HS hb; clear hb f1_ f2_) | (go_at_call 133; refine (HUP.out _).mono ?_; rintro e_ w1 ⟨rfl, hb⟩; replace HS := sB HS hb; clear hb))
    replace HS := sD HS
    refine ps (.p 0 (.p 2 (.p 3 (.p 4 (.p 6 (.p 8 (.t 1 (.p 5 (.t 7 (.p 9 (.d 10 (.p 11 (.p 12 (.d 13 (.p 14 .done))))))))))))))) (fun w' => w'.cell? ⟨g_p, 0, none⟩ = some (.int .i64 a.1) ∧ w'.cell? ⟨g_p, 1, none⟩ = some (.int .i64 a.2)) [10, 13] ⟨HS.out.c 1 0 (v := .int .i64 a.1) rfl rfl, HS.out.c 1 1 (v := .int .i64 a.2) rfl rfl⟩ (fun hHeld => ?_)
    repeat (first | ((with_reducible refine gate_p ?_); refine rp rfl rfl ?_) | ((with_reducible refine gate_t ?_); refine rt rfl rfl hHeld ?_))
    refine run_d rfl (fun K hK => ?_)
    refine gc Try.func141 (HRD.out _) rfl rfl ?_
    rintro e_ w1 ⟨rfl, hb⟩
    refine ⟨_, rfl, ?_⟩
    replace HS := sB HS hb
    clear hb
    refine gd hK ?_
    clear hK K
    repeat (first | ((with_reducible refine gate_p ?_); refine rp rfl rfl ?_) | ((with_reducible refine gate_t ?_); refine rt rfl rfl hHeld ?_))
    refine run_d rfl (fun K hK => ?_)
    refine st1 HS 0 0 #[.int .i64 (rnum (a.1 * x) y), .int .i64 (rden (a.1 * x) y)] rfl rfl rfl rfl rfl ?_
    clear HS
    intro w1 HS
    refine goD hK rfl ?_
    clear hK K
    repeat (first | ((with_reducible refine gate_p ?_); refine rp rfl rfl ?_) | ((with_reducible refine gate_t ?_); refine rt rfl rfl hHeld ?_))
    refine run_done ?_
    clear hHeld
    go_wp2
    refine bodyPost_ret (results_cell_tmp_row rfl _ _ g_r 34 #[.int .i64 (rnum (a.1 * x) y), .int .i64 (rden (a.1 * x) y)] (0, 0) _ rfl (HS.out.at (i := 0) rfl) Try.underlying34 rfl (by kernel_rfl)) rfl ?_
    refine ⟨rnum (a.1 * x) y, rden (a.1 * x) y, fun c hc => ?_, ?_, HS.out.below⟩
    · rw [HM.out, HOK.out] at hc
      split at hc
      · exact (Option.some.inj hc).symm
      · cases hc
    · rw [HM.out, HOK.out]
      cases okN (a.1 * x) y <;> rfl
end Go.Proofs.Ytibjkjhpfmmjoaa.H



namespace Go.Proofs.Ytibjkjhpfmmjoaa.M
theorem rel_zero (d n : Nat) : Rel d n (some []) ((fun _ => (0, 1)), false) := .inr ⟨[], rfl, rfl, isTs_nil d n, fun w _ _ => co_nil w⟩
end Go.Proofs.Ytibjkjhpfmmjoaa.M
namespace Go.Proofs.Ytibjkjhpfmmjoaa.H
open Go.RowKit Go.Proofs.YtibjkjhpfmmjoaaW.PrintWords Go.Proofs.YtibjkjhpfmmjoaaW.PrintLast Go.Proofs.YtibjkjhpfmmjoaaW.PrintMore Go.Proofs.Ytibjkjhpfmmjoaa.M
attribute [local go_sem] max2_int min2_int max_two min_two max_three min_three max_four min_four
set_option linter.unusedVariables false
set_option linter.unusedSimpArgs false
set_option maxRecDepth 100000
def RetT (w : World) (d n : Nat) (o : Option Ts) (e : Ending) (w' : World) : Prop := ∃ g v F, e = .returned (.pointer (some ⟨g, 0, none⟩)) ∧ good F.1 ∧ Rel d n o F ∧ Sep w w' [tS g v d n (nW d n) F.2, tV v d n F.1]
def TabI (W : World) (g v d n : Nat) (F : Tb) (o : Option Ts) : Prop := good F.1 ∧ Rel d n o F ∧ (tS g v d n (nW d n) F.2).I W ∧ (tV v d n F.1).I W
variable {w : World} {d n g v g1 v1 g2 v2 : Nat} {F F1 F2 : Tb} {o o1 o2 : Option Ts}
theorem lev9 (hl : lev d n = true) : d ≤ 9 := by have := lev_bd hl; omega
theorem tabNew (hl : lev d n = true) (w : World) : Calls Try.prog 79 #[.int .i64 (d : Int), .int .i64 (n : Int)] w (RetT w d n (some [])) :=
  (implNew d n hl w).mono fun e w' h => by obtain ⟨g, v, he, hs⟩ := h; exact ⟨g, v, _, he, good_zero, rel_zero d n, hs⟩
theorem tabTold (hl : lev d n = true) (h : TabI w g v d n F o) : Calls Try.prog 69 #[.pointer (some ⟨g, 0, none⟩)] w (RetS w (resO d n o)) :=
  (Rel.told (lev9 hl) h.1 h.2.1) ▸ implTold g v d n F.2 F.1 w hl h.2.2.1 h.2.2.2
theorem TabI.old {w W : World} {d n g v : Nat} {F : Tb} {o : Option Ts} {L : List As} (h : TabI w g v d n F o) (HS : Mod w W No L) : TabI W g v d n F o := ⟨h.1, h.2.1, HS.oldI h.2.2.1, HS.oldI h.2.2.2⟩
end Go.Proofs.Ytibjkjhpfmmjoaa.H
namespace Go.Proofs.Ytibjkjhpfmmjoaa.H
open Go.RowKit Go.Proofs.YtibjkjhpfmmjoaaW.PrintWords Go.Proofs.YtibjkjhpfmmjoaaW.PrintLast Go.Proofs.YtibjkjhpfmmjoaaW.PrintMore Go.Proofs.Ytibjkjhpfmmjoaa.M
variable {w : World} {d n g1 v1 g2 v2 : Nat} {F1 F2 : Tb} {o1 o2 : Option Ts}
end Go.Proofs.Ytibjkjhpfmmjoaa.H


