/- Texts that are drawn: what the reference's l01Damage and l01Wordy return. Conditions: the bounds that stand in each statement. -/
import Derived.Test.YtaheikponfmdiaaKDraw2
import Derived.Test.YtaheikponfmdiaaKWords
namespace Go.Proofs.Ytaheikponfmdiaa.H
open Go.RowKit Go.Proofs.YtaheikponfmdiaaW.PrintWords Go.Proofs.YtaheikponfmdiaaW.PrintLast Go.Proofs.YtaheikponfmdiaaW.PrintMore Go.Proofs.Ytaheikponfmdiaa.M
attribute [local go_sem] max2_int min2_int max_two min_two max_three min_three max_four min_four
set_option linter.unusedVariables false
set_option linter.unusedSimpArgs false
set_option maxRecDepth 100000
/-- The signs with which a text is damaged. -/
def signs : List ByteArray := [⟨#[48]⟩, ⟨#[49]⟩, ⟨#[50]⟩, ⟨#[57]⟩, ⟨#[47]⟩, ⟨#[42]⟩, ⟨#[43]⟩, ⟨#[45]⟩, ⟨#[32]⟩, ⟨#[44]⟩, ⟨#[91]⟩, ⟨#[10]⟩]
theorem signs_size {s : ByteArray} (h : s ∈ signs) : s.size = 1 := by
  simp only [signs, List.mem_cons, List.not_mem_nil, or_false] at h
  rcases h with rfl | rfl | rfl | rfl | rfl | rfl | rfl | rfl | rfl | rfl | rfl | rfl <;> rfl
theorem reps_strs (W : World) (base : Nat) (ok : Nat → Prop) : ∀ l : List ByteArray, Reps (Kd.string.M W base ok) Kd.string.sz l (l.map Value.string)
  | [] => Reps.none _ _
  | x :: l => Reps.one (str_M x W base ok) (reps_strs W base ok l)
theorem Mod.sx {w W : World} {S : Nat → Prop} {L : List As} (h : Mod w W S L) (i : Nat) {ad : Addr} {c : Nat} {u : List ByteArray} (hi : L[i]? = some (rowS (some ad) c u)) {j : Nat} {s : ByteArray} (hj : u[j]? = some s) : W.cell? (ad.add j) = some (.string s) := by
  obtain ⟨h1, h2⟩ := List.getElem?_eq_some_iff.1 hj
  obtain ⟨ad', e, h0⟩ := str_at (h.reads i hi) j h1
  cases e
  rwa [List.getD_eq_getElem?_getD, hj] at h0
set_option maxHeartbeats 8000000 in
theorem specDamage (g : Nat) (A : Option Addr) (c m k : Nat) (h : Int) (t : ByteArray) (w : World) (ho : (srcB g A m c k h).I w) (hcd : Code w g A m) (hk : k ≤ m) (hm : m ≤ 1048576) (ht : t.size ≤ 1048576) :
    Calls Try.prog 171 #[.pointer (some ⟨g, 0, none⟩), .string t] w fun e w' => ∃ (r : ByteArray) (k' : Nat) (h' : Int), e = .returned (.string r) ∧ k' ≤ m ∧ r.size ≤ t.size + 1 ∧ Mod w w' (fun b => b = g) [srcB g A m c k' h'] := by
  have HS := Aside0.mk (Mod.own1 ho)
  have HC := Aside0.mk hcd
  have HN := Aside0.mk (fun k h n W k1 k2 hk h1 => specNext g A c m k h n W k1 k2 hk hm h1)
  have HSG := Aside0.mk (fun (i : Nat) (s : ByteArray) (h : signs[i]? = some s) => signs_size (List.mem_of_getElem? h))
  clear ho hcd
  go_enter Try.func171, Try.ntmps171
  by_cases h0 : t.size = 0
  · have hb0 : ((t.size : Int) == 0) = true := by rw [h0]; rfl
    clear h0
    go_wp2_with (first | ((with_reducible refine gate_dst (N := 8) rfl ?_); refine wpList_stp (fun K hK => ?_); refine stp_lit (Kd.string) rfl 9 (by rfl) HS (xs := [⟨#[48]⟩, ⟨#[49]⟩, ⟨#[50]⟩, ⟨#[57]⟩, ⟨#[47]⟩, ⟨#[42]⟩, ⟨#[43]⟩, ⟨#[45]⟩, ⟨#[32]⟩, ⟨#[44]⟩, ⟨#[91]⟩, ⟨#[10]⟩]) (inner := [.string ⟨#[48]⟩, .string ⟨#[49]⟩, .string ⟨#[50]⟩, .string ⟨#[57]⟩, .string ⟨#[47]⟩, .string ⟨#[42]⟩, .string ⟨#[43]⟩, .string ⟨#[45]⟩, .string ⟨#[32]⟩, .string ⟨#[44]⟩, .string ⟨#[91]⟩, .string ⟨#[10]⟩]) (by first | (go_simp; done) | (go_simp; rfl)) (fun W base ok => reps_strs W base ok _) (by simp) ?_; clear HS; intro A_l c_l w1 HS; refine hK _ _ ?_; clear hK K) | (go_at_call 120; refine (HN.out k h 12 _ (HS.out.at (i := 1) rfl) (HC.out.mod HS.out (fun _ h => h)) hk (by omega)).mono ?_; rintro e_ w1 ⟨r, k1, h1, rfl, hk1, hr1, hr2, hs⟩; replace HS : Aside0 (Mod _ _ _ [_, _]) := sM1 HS 1 [0] rfl hs; clear hs; obtain ⟨hr3, hr4⟩ := hr1 (by omega); clear hr1 hr2; obtain ⟨i, rfl⟩ : ∃ i : Nat, r = i := ⟨Int.toNat r, by omega⟩; obtain ⟨x, hx⟩ : ∃ x, signs[i]? = some x := ⟨_, List.getElem?_eq_getElem (show i < 12 by omega)⟩; have HX := Aside0.mk hx; clear hx; have hxs := HSG.out i x HX.out; have hil : i < 12 := (by omega); clear hr3 hr4; obtain ⟨ad, ea, h_⟩ := str_at (HS.out.reads 1 rfl) 0 (by decide); clear h_; cases ea; have f1_ := HS.out.sx 1 rfl HX.out))
    go_ret
    exact ⟨x, k1, h1, rfl, hk1, by omega, HS.out.sel [0] (by decide)⟩
  · have hb0 : ((t.size : Int) == 0) = false := by rw [beq_eq_false_iff_ne]; omega
    have ht0 : 1 ≤ t.size := by omega
    clear h0
    have tk1_ : True := trivial
    have tk2_ : True := trivial
    go_wp2_with (first | ((with_reducible refine gate_dst (N := 8) rfl ?_); refine wpList_stp (fun K hK => ?_); refine stp_lit (Kd.string) rfl 9 (by rfl) HS (xs := [⟨#[48]⟩, ⟨#[49]⟩, ⟨#[50]⟩, ⟨#[57]⟩, ⟨#[47]⟩, ⟨#[42]⟩, ⟨#[43]⟩, ⟨#[45]⟩, ⟨#[32]⟩, ⟨#[44]⟩, ⟨#[91]⟩, ⟨#[10]⟩]) (inner := [.string ⟨#[48]⟩, .string ⟨#[49]⟩, .string ⟨#[50]⟩, .string ⟨#[57]⟩, .string ⟨#[47]⟩, .string ⟨#[42]⟩, .string ⟨#[43]⟩, .string ⟨#[45]⟩, .string ⟨#[32]⟩, .string ⟨#[44]⟩, .string ⟨#[91]⟩, .string ⟨#[10]⟩]) (by first | (go_simp; done) | (go_simp; rfl)) (fun W base ok => reps_strs W base ok _) (by simp) ?_; clear HS; intro A_l c_l w1 HS; refine hK _ _ ?_; clear hK K) | (go_at_call 120; clear tk1_; refine (HN.out k h 12 _ (HS.out.at (i := 1) rfl) (HC.out.mod HS.out (fun _ h => h)) hk (by omega)).mono ?_; rintro e_ w1 ⟨r, k1, h1, rfl, hk1, hr1, hr2, hs⟩; replace HS : Aside0 (Mod _ _ _ [_, _]) := sM1 HS 1 [0] rfl hs; clear hs; obtain ⟨hr3, hr4⟩ := hr1 (by omega); clear hr1 hr2; obtain ⟨i, rfl⟩ : ∃ i : Nat, r = i := ⟨Int.toNat r, by omega⟩; obtain ⟨x, hx⟩ : ∃ x, signs[i]? = some x := ⟨_, List.getElem?_eq_getElem (show i < 12 by omega)⟩; have HX := Aside0.mk hx; clear hx; have hxs := HSG.out i x HX.out; have hil : i < 12 := (by omega); clear hr3 hr4; obtain ⟨ad, ea, h_⟩ := str_at (HS.out.reads 1 rfl) 0 (by decide); clear h_; cases ea; have f1_ := HS.out.sx 1 rfl HX.out) | (go_at_call 120; clear tk2_; refine (HN.out k1 h1 (t.size : Int) _ (HS.out.at (i := 0) rfl) (HC.out.mod HS.out (fun _ h => h)) hk1 (by omega)).mono ?_; rintro e_ w1 ⟨r2, k2, h2, rfl, hk2, hr1, hr2, hs⟩; replace HS : Aside0 (Mod _ _ _ [_, _]) := sM1 HS 0 [1] rfl hs; clear hs f1_; obtain ⟨hr3, hr4⟩ := hr1 (by omega); clear hr1 hr2; obtain ⟨j, rfl⟩ : ∃ i : Nat, r2 = i := ⟨Int.toNat r2, by omega⟩; have hjl : j < t.size := (by omega); clear hr3 hr4) | (go_at_call 120; refine (HN.out k2 h2 3 _ (HS.out.at (i := 0) rfl) (HC.out.mod HS.out (fun _ h => h)) hk2 (by omega)).mono ?_; rintro e_ w1 ⟨q, k3, h3, rfl, hk3, hr1, hr2, hs⟩; replace HS : Aside0 (Mod _ _ _ [_, _]) := sM1 HS 0 [1] rfl hs; clear hs; obtain ⟨hr3, hr4⟩ := hr1 (by omega); clear hr1 hr2; obtain ⟨u, rfl⟩ : ∃ i : Nat, q = i := ⟨Int.toNat q, by omega⟩; clear hr3 hr4; refine Hid.out ?_))
    refine Lib.hid ?_
    have HJ1 := Aside0.mk (show wrap64 ((j : Int) + 1) = ((j + 1 : Nat) : Int) by rw [wrap_id (by omega) (by omega)]; rfl)
    have hj1 : (j : Int) ≤ (t.size : Int) := by omega
    have hj2 : ((j + 1 : Nat) : Int) ≤ (t.size : Int) := by omega
    have hj0 : (0 : Int) ≤ (j : Int) + 1 := by omega
    have hj9 : (j : Int) + 1 ≤ (t.size : Int) := by omega
    have hj3 : ¬ (9223372036854775807 < min j t.size + 1) := by omega
    have hj4 : min j t.size = j := by omega
    have hj5 : ¬ (9223372036854775807 < j + 1) := by omega
    have hj6 : ¬ (9223372036854775807 < j + 1 + (t.size - (j + 1))) := by omega
    have hj7 : ¬ (9223372036854775807 < j + (t.size - (j + 1))) := by omega
    have hj8 : ¬ (9223372036854775807 < j + 1 + (t.size - j)) := by omega
    by_cases h0 : u = 0
    · have hu0 : ((u : Int) == 0) = true := by rw [h0]; rfl
      clear h0
      go_wp2
      have hw := HJ1.out
      replace HS := sD HS
      refine ps (.p 0 (.p 1 (.p 2 (.p 3 (.p 4 (.p 5 (.p 6 (.p 7 (.p 8 (.p 9 (.p 10 .done))))))))))) (fun w' => True) [] trivial (fun hHeld => ?_)
      repeat (first | ((with_reducible refine gate_p ?_); refine rp rfl rfl ?_))
      refine run_done ?_
      clear hHeld
      clear hw
      go_wp2
      go_ret
      refine ⟨_, k3, h3, rfl, hk3, ?_, HS.out.sel [0] (by decide)⟩
      simp only [ByteArray.size_append, ByteArray.size_extract]
      omega
    · have hu0 : ((u : Int) == 0) = false := by rw [beq_eq_false_iff_ne]; omega
      by_cases h1 : u = 1
      · have hu1 : ((u : Int) == 1) = true := by rw [h1]; rfl
        clear h0 h1
        go_wp2
        have hw := HJ1.out
        replace HS := sD HS
        refine ps (.p 0 (.p 1 (.p 2 (.p 3 (.p 4 (.p 5 (.p 6 (.p 7 (.p 8 .done))))))))) (fun w' => True) [] trivial (fun hHeld => ?_)
        repeat (first | ((with_reducible refine gate_p ?_); refine rp rfl rfl ?_))
        refine run_done ?_
        clear hHeld
        clear hw
        go_wp2
        go_ret
        refine ⟨_, k3, h3, rfl, hk3, ?_, HS.out.sel [0] (by decide)⟩
        simp only [ByteArray.size_append, ByteArray.size_extract]
        omega
      · have hu1 : ((u : Int) == 1) = false := by rw [beq_eq_false_iff_ne]; omega
        clear h0 h1
        go_wp2
        have hw := HJ1.out
        replace HS := sD HS
        refine ps (.p 0 (.p 1 (.p 2 (.p 3 (.p 4 (.p 5 (.p 6 (.p 7 (.p 8 (.p 9 .done)))))))))) (fun w' => True) [] trivial (fun hHeld => ?_)
        repeat (first | ((with_reducible refine gate_p ?_); refine rp rfl rfl ?_))
        refine run_done ?_
        clear hHeld
        clear hw
        go_wp2
        go_ret
        refine ⟨_, k3, h3, rfl, hk3, ?_, HS.out.sel [0] (by decide)⟩
        simp only [ByteArray.size_append, ByteArray.size_extract]
        omega
end Go.Proofs.Ytaheikponfmdiaa.H


