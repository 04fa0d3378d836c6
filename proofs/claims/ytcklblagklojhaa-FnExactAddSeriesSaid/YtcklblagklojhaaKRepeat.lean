/- New tables: what the library's Repeat returns for a row of one fraction. Conditions: at most a thousand. -/
import Derived.Test.YtcklblagklojhaaKRep
import Derived.Test.YtcklblagklojhaaKWords
namespace Go.Proofs.Ytcklblagklojhaa.H
open Go.RowKit Go.Proofs.YtcklblagklojhaaW.PrintWords Go.Proofs.YtcklblagklojhaaW.PrintLast Go.Proofs.YtcklblagklojhaaW.PrintMore Go.Proofs.Ytcklblagklojhaa.M
attribute [local go_sem] max2_int min2_int max_two min_two max_three min_three max_four min_four
set_option linter.unusedVariables false
set_option linter.unusedSimpArgs false
set_option maxRecDepth 100000
/-- The sizes of tables. -/
def sizes : List Nat := [2, 3, 4, 5, 6, 7, 13, 15, 31, 40, 63, 121]
theorem bitsMul2 (w : World) : Calls Try.prog 209 #[.int .u64 1, .int .u64 2] w fun e w' => e = .returned (.tuple #[.int .u64 0, .int .u64 2]) ∧ w' = w := by
  go_enter Try.func209, Try.ntmps209
  go_wp2
  go_ret2
  exact ⟨rfl, rfl⟩
theorem bitsMul3 (w : World) : Calls Try.prog 209 #[.int .u64 1, .int .u64 3] w fun e w' => e = .returned (.tuple #[.int .u64 0, .int .u64 3]) ∧ w' = w := by
  go_enter Try.func209, Try.ntmps209
  go_wp2
  go_ret2
  exact ⟨rfl, rfl⟩
theorem bitsMul4 (w : World) : Calls Try.prog 209 #[.int .u64 1, .int .u64 4] w fun e w' => e = .returned (.tuple #[.int .u64 0, .int .u64 4]) ∧ w' = w := by
  go_enter Try.func209, Try.ntmps209
  go_wp2
  go_ret2
  exact ⟨rfl, rfl⟩
theorem bitsMul5 (w : World) : Calls Try.prog 209 #[.int .u64 1, .int .u64 5] w fun e w' => e = .returned (.tuple #[.int .u64 0, .int .u64 5]) ∧ w' = w := by
  go_enter Try.func209, Try.ntmps209
  go_wp2
  go_ret2
  exact ⟨rfl, rfl⟩
theorem bitsMul6 (w : World) : Calls Try.prog 209 #[.int .u64 1, .int .u64 6] w fun e w' => e = .returned (.tuple #[.int .u64 0, .int .u64 6]) ∧ w' = w := by
  go_enter Try.func209, Try.ntmps209
  go_wp2
  go_ret2
  exact ⟨rfl, rfl⟩
theorem bitsMul7 (w : World) : Calls Try.prog 209 #[.int .u64 1, .int .u64 7] w fun e w' => e = .returned (.tuple #[.int .u64 0, .int .u64 7]) ∧ w' = w := by
  go_enter Try.func209, Try.ntmps209
  go_wp2
  go_ret2
  exact ⟨rfl, rfl⟩
theorem bitsMul13 (w : World) : Calls Try.prog 209 #[.int .u64 1, .int .u64 13] w fun e w' => e = .returned (.tuple #[.int .u64 0, .int .u64 13]) ∧ w' = w := by
  go_enter Try.func209, Try.ntmps209
  go_wp2
  go_ret2
  exact ⟨rfl, rfl⟩
theorem bitsMul15 (w : World) : Calls Try.prog 209 #[.int .u64 1, .int .u64 15] w fun e w' => e = .returned (.tuple #[.int .u64 0, .int .u64 15]) ∧ w' = w := by
  go_enter Try.func209, Try.ntmps209
  go_wp2
  go_ret2
  exact ⟨rfl, rfl⟩
theorem bitsMul31 (w : World) : Calls Try.prog 209 #[.int .u64 1, .int .u64 31] w fun e w' => e = .returned (.tuple #[.int .u64 0, .int .u64 31]) ∧ w' = w := by
  go_enter Try.func209, Try.ntmps209
  go_wp2
  go_ret2
  exact ⟨rfl, rfl⟩
theorem bitsMul40 (w : World) : Calls Try.prog 209 #[.int .u64 1, .int .u64 40] w fun e w' => e = .returned (.tuple #[.int .u64 0, .int .u64 40]) ∧ w' = w := by
  go_enter Try.func209, Try.ntmps209
  go_wp2
  go_ret2
  exact ⟨rfl, rfl⟩
theorem bitsMul63 (w : World) : Calls Try.prog 209 #[.int .u64 1, .int .u64 63] w fun e w' => e = .returned (.tuple #[.int .u64 0, .int .u64 63]) ∧ w' = w := by
  go_enter Try.func209, Try.ntmps209
  go_wp2
  go_ret2
  exact ⟨rfl, rfl⟩
theorem bitsMul121 (w : World) : Calls Try.prog 209 #[.int .u64 1, .int .u64 121] w fun e w' => e = .returned (.tuple #[.int .u64 0, .int .u64 121]) ∧ w' = w := by
  go_enter Try.func209, Try.ntmps209
  go_wp2
  go_ret2
  exact ⟨rfl, rfl⟩
theorem bitsMul (N : Nat) (h : N ∈ sizes) (w : World) : Calls Try.prog 209 #[.int .u64 1, .int .u64 (N : Int)] w fun e w' => e = .returned (.tuple #[.int .u64 0, .int .u64 (N : Int)]) ∧ Below w.heap.size w w' := by
  simp only [sizes, List.mem_cons, List.not_mem_nil, or_false] at h
  rcases h with rfl | rfl | rfl | rfl | rfl | rfl | rfl | rfl | rfl | rfl | rfl | rfl
  · exact (bitsMul2 w).mono fun _ _ ⟨h, e⟩ => ⟨h, by rw [e]; exact Below.refl _ _⟩
  · exact (bitsMul3 w).mono fun _ _ ⟨h, e⟩ => ⟨h, by rw [e]; exact Below.refl _ _⟩
  · exact (bitsMul4 w).mono fun _ _ ⟨h, e⟩ => ⟨h, by rw [e]; exact Below.refl _ _⟩
  · exact (bitsMul5 w).mono fun _ _ ⟨h, e⟩ => ⟨h, by rw [e]; exact Below.refl _ _⟩
  · exact (bitsMul6 w).mono fun _ _ ⟨h, e⟩ => ⟨h, by rw [e]; exact Below.refl _ _⟩
  · exact (bitsMul7 w).mono fun _ _ ⟨h, e⟩ => ⟨h, by rw [e]; exact Below.refl _ _⟩
  · exact (bitsMul13 w).mono fun _ _ ⟨h, e⟩ => ⟨h, by rw [e]; exact Below.refl _ _⟩
  · exact (bitsMul15 w).mono fun _ _ ⟨h, e⟩ => ⟨h, by rw [e]; exact Below.refl _ _⟩
  · exact (bitsMul31 w).mono fun _ _ ⟨h, e⟩ => ⟨h, by rw [e]; exact Below.refl _ _⟩
  · exact (bitsMul40 w).mono fun _ _ ⟨h, e⟩ => ⟨h, by rw [e]; exact Below.refl _ _⟩
  · exact (bitsMul63 w).mono fun _ _ ⟨h, e⟩ => ⟨h, by rw [e]; exact Below.refl _ _⟩
  · exact (bitsMul121 w).mono fun _ _ ⟨h, e⟩ => ⟨h, by rw [e]; exact Below.refl _ _⟩
theorem sizes_le {N : Nat} (h : N ∈ sizes) : 2 ≤ N ∧ N ≤ 121 := by
  simp only [sizes, List.mem_cons, List.not_mem_nil, or_false] at h
  omega
theorem fr_one {w : World} {A : Option Addr} {z : Fr} (h : KF.C w A 1 [z]) : ∃ ad, A = some ad ∧ ∀ j v, (fc [z])[j]? = some v → w.cell? (ad.add j) = some v := by
  obtain ⟨ad, c, hA, hl, ⟨c0, c1, rfl, h0, h1⟩, hc⟩ := Kd.C_get h (0, 0) 0 (by omega) (by omega)
  have h0' : c0 = [.int .i64 z.1] := h0
  have h1' : c1 = [.int .i64 z.2] := h1
  subst h0' h1'
  refine ⟨ad, hA, fun j v hj => ?_⟩
  have := hc j v hj
  rwa [show Int.toNat 0 * KF.sz + j = j by simp] at this
/-- m fractions z, and zeros. -/
def rep (N m : Nat) (z : Fr) : List Fr := List.replicate m z ++ List.replicate (N - m) (0, 0)
theorem rep_length {N m : Nat} (z : Fr) (h : m ≤ N) : (rep N m z).length = N := by simp [rep]; omega
theorem rep_more {N m k : Nat} (z : Fr) (h : m + k ≤ N) : (rep N m z).take m ++ List.replicate k z ++ (rep N m z).drop (m + (List.replicate k z).length) = rep N (m + k) z := by
  unfold rep
  rw [List.length_replicate, List.take_left' (by simp), List.drop_append, List.length_replicate, List.drop_of_length_le (by simp), List.nil_append, show m + k - m = k by omega, List.drop_replicate, List.replicate_append_replicate, show N - m - k = N - (m + k) by omega]
theorem rep_cells {N m k j : Nat} {z : Fr} {v : Value} (hk : k ≤ m) (hj : (fc (List.replicate k z))[j]? = some v) : (fc (rep N m z)).toArray[j]? = some v := by
  rw [List.getElem?_toArray, show rep N m z = List.replicate k z ++ (List.replicate (m - k) z ++ List.replicate (N - m) (0, 0)) by unfold rep; rw [← List.append_assoc, List.replicate_append_replicate, show k + (m - k) = m by omega], fc_append, List.getElem?_append_left (List.getElem?_eq_some_iff.1 hj).1]
  exact hj
set_option maxHeartbeats 8000000 in
theorem slicesRepeat (A : Option Addr) (c : Nat) (z : Fr) (N : Nat) (w : World) (hr : KF.C w A 1 [z]) (hN : N ∈ sizes) :
    Calls Try.prog 182 #[.slice A 1 c, .int .i64 (N : Int)] w fun e w' => ∃ g, e = .returned (.slice (some ⟨g, 0, none⟩) N N) ∧ Sep w w' [tv g (List.replicate N z)] := by
  obtain ⟨h2, h121⟩ := sizes_le hN
  obtain ⟨ad, rfl, hsrc⟩ := fr_one hr
  have HSRC := Aside0.mk hsrc
  have HS := Aside0.mk (Sep.refl w)
  have HU := Aside0.mk (show IntKind.u64.wrap (N : Int) = N from IntWalk.u64_in _ ⟨by omega, by omega⟩)
  have hu := HU.out
  have hn0 : ¬ ((N : Int) < 0) := by omega
  have hn1 : decide (9223372036854775807 < (N : Int)) = false := decide_eq_false (by omega)
  clear hr hsrc
  go_enter Try.func182, Try.ntmps182
  go_wp2_with (first | (go_at_call 209; refine (bitsMul N hN _).mono ?_; rintro e_ w1 ⟨rfl, hb⟩; have n_ := Aside0.mk (HS.out.call hb); clear HS hb; have HS := n_; clear n_) | ((with_reducible refine gate_dst (N := 30) rfl ?_); refine wpList_stp (fun K hK => ?_); refine stp_makeF (by rfl) HS rfl 104 _ _ rfl N rfl rfl Try.underlying104 infoFrac (by omega) ?_; clear HS; intro g_v w1 hg_v HS; refine hK _ _ ?_; clear hK K) | ((with_reducible refine gate_builtin (b := .copy) (xs := #[.tmp 31, .tmp 32]) rfl ?_); refine wpList_stp (fun K hK => ?_); refine stp_copyF (by rfl) HS _ _ 104 104 rfl Try.underlying104 (by kernel_rfl) 0 (k := 0) (zs := [z]) rfl rfl rfl (by show 1 = min 1 N; omega) (fun j v hj => HS.out.old (HSRC.out j v hj)) (by simp; omega) ?_; clear HS; intro w1 HS; simp only [List.set_cons_zero] at HS; refine hK _ _ ?_; clear hK K))
  have hy : (List.replicate N ((0, 0) : Fr)).take 0 ++ [z] ++ (List.replicate N (0, 0)).drop (0 + [z].length) = rep N 1 z := by
    have := rep_more (N := N) (m := 0) (k := 1) z (by omega)
    simp [rep] at this ⊢
  rw [hy] at HS
  clear hy hu hn1
  go_loopw [8] (fun x w' => ∃ m : Nat, 1 ≤ m ∧ m ≤ N ∧ x = .int .i64 (m : Int) ∧ Aside0 (Mod w w' No [tv g_v (rep N m z)])) (fun x _ => N - (intOf x).toNat)
  case atStart => exact ⟨1, by omega, by omega, rfl, HS⟩
  case round =>
    clear HS
    obtain ⟨m, hm1, hmN, rfl, HS⟩ := hrel
    by_cases hlt : m < N
    · obtain ⟨k, hk⟩ : ∃ k, k = min m (N - m) := ⟨_, rfl⟩
      have hk1 : 1 ≤ k := by omega
      have hkm : k ≤ m := by omega
      have hmk : m + k ≤ N := by omega
      have HK := Aside0.mk (show (List.replicate k z).length = min m (N - m) by rw [List.length_replicate]; exact hk)
      have HF := Aside0.mk (show m + (List.replicate k z).length ≤ (rep N m z).length by rw [List.length_replicate, rep_length z hmN]; exact hmk)
      have HM := Aside0.mk (rep_more (N := N) z hmk)
      have HWm := Aside0.mk (show wrap64 ((m : Int) + (k : Int)) = ((m + k : Nat) : Int) by rw [wrap_id (by omega) (by omega)]; omega)
      clear hk
      have h0 : (0 : Int) ≤ m := by omega
      have h1 : (m : Int) ≤ N := by omega
      have h3 : ¬ (N = m) := by omega
      have h4 : ((N : Int) - (m : Int)).toNat = N - m := by omega
      go_wp2
      have hw1 := HWm.out
      have hw2 := (i64_w _).trans HWm.out
      have n_ := Aside0.mk HS.out.drew
      clear HS
      have HS := n_
      clear n_
      refine plan_start (.p 0 (.p 1 (.p 2 (.p 3 (.p 4 (.p 5 (.p 6 (.e 7 (.p 8 (.p 9 .done)))))))))) (fun w' => True) [] (by kernel_rfl) (by kernel_rfl) (fun c_ a_ d_ v_ w_ h_ => by cases d_ <;> exact h_) trivial (fun hHeld => ?_)
      repeat (first | ((with_reducible refine gate_p ?_); refine run_p (v := ?_) rfl rfl (Or.inl ⟨by rfl, ?_⟩) (a' := ?_) ?_ ?_; rotate_left; (· (intro w'; first | (go_simp; with_reducible rfl) | (go_simp; done))); rotate_left; (· first | (simp only [Act.put, List.setIfInBounds_toArray, List.set_cons_zero, List.set_cons_succ, i64_w, i32_w]; rfl) | simp only [Act.put, List.setIfInBounds_toArray, List.set_cons_zero, List.set_cons_succ, i64_w, i32_w])))
      refine run_e rfl (fun K hK => ?_)
      refine stp_copyF (by rfl) HS _ _ 104 104 rfl Try.underlying104 (by kernel_rfl) 0 (k := m) (zs := List.replicate k z) rfl rfl rfl HK.out (fun j v hj => by rw [add_plain]; exact HS.out.c 0 j rfl (rep_cells hkm hj)) HF.out ?_
      clear HS
      intro w1 HS
      simp only [List.set_cons_zero] at HS
      rw [HM.out] at HS
      refine goE hK trivial (a' := ?_) ?_ (fun hHeld => ?_)
      rotate_left
      · first | (simp only [Act.put, List.setIfInBounds_toArray, List.set_cons_zero, List.set_cons_succ, i64_w, i32_w]; rfl) | simp only [Act.put, List.setIfInBounds_toArray, List.set_cons_zero, List.set_cons_succ, i64_w, i32_w]
      clear hK K
      repeat (first | ((with_reducible refine gate_p ?_); refine run_p (v := ?_) rfl rfl (Or.inl ⟨by rfl, ?_⟩) (a' := ?_) ?_ ?_; rotate_left; (· (intro w'; first | (go_simp; with_reducible rfl) | (go_simp; done))); rotate_left; (· first | (simp only [Act.put, List.setIfInBounds_toArray, List.set_cons_zero, List.set_cons_succ, i64_w, i32_w]; rfl) | simp only [Act.put, List.setIfInBounds_toArray, List.set_cons_zero, List.set_cons_succ, i64_w, i32_w])))
      refine run_done ?_
      clear hHeld
      clear hw1 hw2
      go_wp2
      go_roundw
      case rel => exact ⟨m + k, by omega, hmk, by first | rfl | rw [HWm.out], HS⟩
      case measure => simp [intOf]; omega
    · obtain rfl : m = N := by omega
      go_wp2
      go_ret
      refine ⟨g_v, rfl, ?_⟩
      have := HS.out
      rwa [show rep m m z = List.replicate m z by simp [rep]] at this
end Go.Proofs.Ytcklblagklojhaa.H

