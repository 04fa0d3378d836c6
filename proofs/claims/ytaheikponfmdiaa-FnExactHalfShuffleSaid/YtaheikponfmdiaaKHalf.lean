/- Half shuffles: the number of those that begin with the first word's letter. Conditions: words of at most 16 letters, the first and the third not empty. -/
import Derived.Test.YtaheikponfmdiaaKSh0
namespace Go.Proofs.Ytaheikponfmdiaa.H
open Go.RowKit Go.Proofs.YtaheikponfmdiaaW.PrintWords Go.Proofs.YtaheikponfmdiaaW.PrintLast Go.Proofs.YtaheikponfmdiaaW.PrintMore Go.Proofs.Ytaheikponfmdiaa.M
attribute [local go_sem] max2_int min2_int max_two min_two max_three min_three max_four min_four
set_option linter.unusedVariables false
set_option linter.unusedSimpArgs false
set_option maxRecDepth 100000
abbrev hshN (v w u : ByteArray) : Nat := hsh (bl v) (bl w) (bl u)
theorem ne_isEmpty {v : ByteArray} (h : 0 < v.size) : v.toList.isEmpty = false := by
  rw [ByteArray.toList_eq]
  have h1 : 0 < v.data.toList.length := by rw [Array.length_toList]; exact h
  cases hh : v.data.toList with
  | nil => rw [hh] at h1; simp at h1
  | cons a l => rfl
theorem hsh_cut {v w u : ByteArray} (hv : 0 < v.size) (hu : 0 < u.size) : hshN v w u = if (bl u).getD 0 0 = (bl v).getD 0 0 then shN (v.extract 1 v.size) w (u.extract 1 u.size) else 0 := by
  unfold shN hshN
  rw [cut_bl, cut_bl]
  have h1 := bl_len v
  have h2 := bl_len u
  cases hbu : bl u with
  | nil => rw [hbu] at h2; simp at h2; omega
  | cons c x =>
    cases hbv : bl v with
    | nil => rw [hbv] at h1; simp at h1; omega
    | cons a y => unfold hsh; simp [eq_comm]
theorem half_cases {v w u : ByteArray} (hv : 0 < v.size) (hu : 0 < u.size) : (∃ cu cv : Int, (∀ h : 0 < u.size, ((u[0]'h).toNat : Int) = cu) ∧ (∀ h : 0 < v.size, ((v[0]'h).toNat : Int) = cv) ∧ (cu != cv) = false ∧ (cv != cu) = false ∧ hshN v w u = shN (v.extract 1 v.size) w (u.extract 1 u.size)) ∨
    (∃ cu cv : Int, (∀ h : 0 < u.size, ((u[0]'h).toNat : Int) = cu) ∧ (∀ h : 0 < v.size, ((v[0]'h).toNat : Int) = cv) ∧ (cu != cv) = true ∧ (cv != cu) = true ∧ hshN v w u = 0) := by
  have hb := byte_eq u v 0 0 hu hv
  have hc := hsh_cut (w := w) hv hu
  by_cases he : ((u[0]'hu).toNat : Int) = ((v[0]'hv).toNat : Int)
  · exact .inl ⟨((u[0]'hu).toNat : Int), ((v[0]'hv).toNat : Int), fun _ => rfl, fun _ => rfl, by simp [he], by simp [he], by rw [hc, if_pos (hb.1 he)]⟩
  · exact .inr ⟨((u[0]'hu).toNat : Int), ((v[0]'hv).toNat : Int), fun _ => rfl, fun _ => rfl, by simpa using he, by simpa using fun h => he h.symm, by rw [hc, if_neg (fun h => he (hb.2 h))]⟩
set_option maxHeartbeats 8000000 in
theorem specHalf (v w u : ByteArray) (W : World) (hv : v.size ≤ 16) (hw : w.size ≤ 16) (hu : u.size ≤ 16) (hv0 : 0 < v.size) (hu0 : 0 < u.size) : Calls Try.prog 168 #[.string v, .string w, .string u] W fun e w' => e = .returned (.int .i64 ((hshN v w u : Nat) : Int)) ∧ Below W.heap.size W w' := by
  have hub : ((u.size : Int) == 0) = false := by rw [beq_eq_false_iff_ne]; omega
  have hv1 : (1 : Int) ≤ (v.size : Int) := by omega
  have hu1 : (1 : Int) ≤ (u.size : Int) := by omega
  rcases half_cases (w := w) hv0 hu0 with ⟨cu, cv, hcu, hcv, e1, e2, hh⟩ | ⟨cu, cv, hcu, hcv, e1, e2, hh⟩
  · have HN := Aside0.mk (fun X => specNum (v.extract 1 v.size) w (u.extract 1 u.size) X (by rw [cut_size]; omega) hw (by rw [cut_size]; omega))
    rw [← hh] at HN
    obtain ⟨m, hm⟩ : ∃ m, m = hshN v w u := ⟨_, rfl⟩
    rw [← hm] at HN ⊢
    clear hh hm
    have HS := Aside0.mk (Sep.refl W)
    go_enter Try.func168, Try.ntmps168
    go_wp2
    replace HS := sD HS
    refine ps (.p 0 (.p 1 (.p 2 (.p 3 (.p 4 (.p 5 (.p 6 (.p 7 (.p 8 (.p 9 .done)))))))))) (fun w' => True) [] trivial (fun hHeld => ?_)
    repeat (first | ((with_reducible refine gate_p ?_); refine rp rfl rfl ?_))
    refine run_done ?_
    clear hHeld
    go_wp2
    replace HS := sD HS
    refine ps (.p 0 (.p 1 (.p 2 (.p 3 (.p 4 (.e 5 (.p 6 .done))))))) (fun w' => True) [] trivial (fun hHeld => ?_)
    repeat (first | ((with_reducible refine gate_p ?_); refine rp rfl rfl ?_))
    refine run_e rfl (fun K hK => ?_)
    refine gc Try.func83 (HN.out _) rfl rfl ?_
    rintro e_ w1 ⟨rfl, hb⟩
    refine ⟨_, rfl, ?_⟩
    replace HS := sB HS hb
    clear hb
    refine ge hK trivial (fun hHeld => ?_)
    clear hK K
    repeat (first | ((with_reducible refine gate_p ?_); refine rp rfl rfl ?_))
    refine run_done ?_
    clear hHeld
    go_wp2
    go_ret
    exact ⟨rfl, HS.out.below⟩
  · rw [hh]
    clear hh
    have HS := Aside0.mk (Sep.refl W)
    go_enter Try.func168, Try.ntmps168
    go_wp2
    replace HS := sD HS
    refine ps (.p 0 (.p 1 (.p 2 (.p 3 (.p 4 (.p 5 (.p 6 (.p 7 (.p 8 (.p 9 .done)))))))))) (fun w' => True) [] trivial (fun hHeld => ?_)
    repeat (first | ((with_reducible refine gate_p ?_); refine rp rfl rfl ?_))
    refine run_done ?_
    clear hHeld
    go_wp2
    go_ret
    exact ⟨rfl, HS.out.below⟩
set_option maxHeartbeats 8000000 in
theorem implHalf (v w u : ByteArray) (W : World) (hv : v.size ≤ 16) (hw : w.size ≤ 16) (hu : u.size ≤ 16) (hv0 : 0 < v.size) (hu0 : 0 < u.size) : Calls Try.prog 114 #[.string v, .string w, .string u] W fun e w' => e = .returned (.int .i64 ((hshN v w u : Nat) : Int)) ∧ Below W.heap.size W w' := by
  have hue := ne_isEmpty hu0
  have hve := ne_isEmpty hv0
  have hv1 : (1 : Int) ≤ (v.size : Int) := by omega
  have hu1 : (1 : Int) ≤ (u.size : Int) := by omega
  rcases half_cases (w := w) hv0 hu0 with ⟨cu, cv, hcu, hcv, e1, e2, hh⟩ | ⟨cu, cv, hcu, hcv, e1, e2, hh⟩
  · have HN := Aside0.mk (fun X => implShuffleNumber (v.extract 1 v.size) w (u.extract 1 u.size) X (by rw [cut_size]; omega) hw (by rw [cut_size]; omega))
    have HE := Aside0.mk hh
    obtain ⟨m, hm⟩ : ∃ m, m = hshN v w u := ⟨_, rfl⟩
    have HN2 := Aside0.mk (fun X => (show Calls Try.prog 88 #[.string (v.extract 1 v.size), .string w, .string (u.extract 1 u.size)] X fun e w' => e = .returned (.int .i64 ((m : Nat) : Int)) ∧ Below X.heap.size X w' by rw [hm, HE.out]; exact HN.out X))
    rw [← hm]
    clear hh hm HN HE
    have HS := Aside0.mk (Sep.refl W)
    go_enter Try.func114, Try.ntmps114
    go_wp2
    replace HS := sD HS
    refine ps (.p 0 (.p 1 (.p 2 (.p 3 (.p 4 (.p 5 (.p 6 (.p 7 (.p 8 (.p 9 (.p 10 (.p 11 (.p 12 .done))))))))))))) (fun w' => True) [] trivial (fun hHeld => ?_)
    repeat (first | ((with_reducible refine gate_p ?_); refine rp rfl rfl ?_))
    refine run_done ?_
    clear hHeld
    go_wp2
    replace HS := sD HS
    refine ps (.p 0 (.p 1 (.p 2 (.p 3 (.p 4 (.e 5 (.p 6 .done))))))) (fun w' => True) [] trivial (fun hHeld => ?_)
    repeat (first | ((with_reducible refine gate_p ?_); refine rp rfl rfl ?_))
    refine run_e rfl (fun K hK => ?_)
    refine gc Try.func88 (HN2.out _) rfl rfl ?_
    rintro e_ w1 ⟨rfl, hb⟩
    refine ⟨_, rfl, ?_⟩
    replace HS := sB HS hb
    clear hb
    refine ge hK trivial (fun hHeld => ?_)
    clear hK K
    repeat (first | ((with_reducible refine gate_p ?_); refine rp rfl rfl ?_))
    refine run_done ?_
    clear hHeld
    go_wp2
    go_ret
    exact ⟨rfl, HS.out.below⟩
  · rw [hh]
    clear hh
    have HS := Aside0.mk (Sep.refl W)
    go_enter Try.func114, Try.ntmps114
    go_wp2
    replace HS := sD HS
    refine ps (.p 0 (.p 1 (.p 2 (.p 3 (.p 4 (.p 5 (.p 6 (.p 7 (.p 8 (.p 9 (.p 10 (.p 11 (.p 12 .done))))))))))))) (fun w' => True) [] trivial (fun hHeld => ?_)
    repeat (first | ((with_reducible refine gate_p ?_); refine rp rfl rfl ?_))
    refine run_done ?_
    clear hHeld
    go_wp2
    go_ret
    exact ⟨rfl, HS.out.below⟩
end Go.Proofs.Ytaheikponfmdiaa.H


