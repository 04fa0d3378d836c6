/- Numbers that follow from a code: what the steps of the reference's source return. Conditions: the bounds that stand in each statement. -/
import Derived.Test.YtaheikponfmdiaaKTable
import Derived.Laws.BitsLemmas
import Derived.Laws.Bits64
namespace Go.Proofs.Ytaheikponfmdiaa.H
open Go.RowKit Go.Proofs.YtaheikponfmdiaaW.PrintWords Go.Proofs.YtaheikponfmdiaaW.PrintLast Go.Proofs.YtaheikponfmdiaaW.PrintMore Go.Proofs.Ytaheikponfmdiaa.M
attribute [local go_sem] max2_int min2_int max_two min_two max_three min_three max_four min_four
set_option linter.unusedVariables false
set_option linter.unusedSimpArgs false
set_option maxRecDepth 100000
/-- A source of numbers. -/
abbrev srcB (g : Nat) (A : Option Addr) (n c : Nat) (k : Nat) (h : Int) : As := bx g 154 #[.slice A n c, .int .i64 (k : Int), .int .u64 h]
/-- The bytes of a code, which are no part of the source's own block g. -/
def Code (w : World) (g : Nat) (A : Option Addr) (n : Nat) : Prop := ∀ i, i < n → ∃ (ad : Addr) (x : Int), A = some ad ∧ ad.block ≠ g ∧ w.cell? (ad.add i) = some (.int .u8 x) ∧ 0 ≤ x ∧ x < 256
theorem add_blk (a : Addr) (i : Nat) : (a.add i).block = a.block := by unfold Addr.add; split <;> rfl
theorem cell_heap {w W : World} {a : Addr} (h : W.heap[a.block]? = w.heap[a.block]?) : W.cell? a = w.cell? a := by
  unfold World.cell?
  rw [h]
theorem Mod.keep {w W : World} {S : Nat → Prop} {L : List As} (h : Mod w W S L) {a : Addr} {v : Value} (hc : w.cell? a = some v) (hS : ¬ S a.block) : W.cell? a = some v :=
  (cell_heap (h.block _ (World.block_lt_of_cell? w _ hc) hS)).trans hc
theorem source_bound (z : Int) : 0 ≤ wrap64 (bits BinOp.and IntKind.u64 (IntKind.u64.wrap z / 2147483648) 1073741823) ∧ wrap64 (bits BinOp.and IntKind.u64 (IntKind.u64.wrap z / 2147483648) 1073741823) ≤ 1073741823 := by
  have h0 : 0 ≤ IntKind.u64.wrap z ∧ IntKind.u64.wrap z < 18446744073709551616 := by rw [IntKind.wrap_u64]; omega
  have h64 : (2 : Int) ^ 64 = 18446744073709551616 := by decide
  have h1 := bits_mask .u64 64 (by decide) (fun n a b => IntWalk.u64_in n ⟨a, by rw [h64] at b; omega⟩) 30 (by decide) (IntKind.u64.wrap z / 2147483648) (by omega) (by rw [h64]; omega)
  rw [show ((2 : Int) ^ 30 - 1) = 1073741823 by decide, show ((2 : Int) ^ 30) = 1073741824 by decide] at h1
  rw [h1]
  have h2 : 0 ≤ IntKind.u64.wrap z / 2147483648 % 1073741824 ∧ IntKind.u64.wrap z / 2147483648 % 1073741824 < 1073741824 := by omega
  rw [wrap_id (by omega) (by omega)]
  omega
theorem tmod_bound {a n : Int} (ha : 0 ≤ a) (hn : 1 ≤ n) : 0 ≤ Int.tmod a n ∧ Int.tmod a n < n := ⟨Int.tmod_nonneg _ ha, Int.tmod_lt_of_pos _ (by omega)⟩
theorem Code.mod {w W : World} {g n : Nat} {A : Option Addr} {L : List As} {S : Nat → Prop} (h : Code w g A n) (HS : Mod w W S L) (hS : ∀ k, S k → k = g) : Code W g A n := fun i hi => by
  obtain ⟨ad, x, h1, h2, h3, h4⟩ := h i hi
  refine ⟨ad, x, h1, h2, ?_, h4⟩
  rw [cell_heap (w := w) (HS.block _ (World.block_lt_of_cell? w _ h3) (fun hk => h2 (by rw [← add_blk ad i]; exact hS _ hk)))]
  exact h3
theorem ki_at {w : World} {k : IntKind} {A : Option Addr} {n : Nat} {l : List Int} (h : (Kd.int k).C w A n l) {i : Nat} {a : Int} (hi : l[i]? = some a) : ∃ ad, A = some ad ∧ w.cell? (ad.add i) = some (.int k a) := by
  obtain ⟨h1, h2⟩ := List.getElem?_eq_some_iff.1 hi
  have hln : l.length = n := h.1
  obtain ⟨ad, c, hA, hl, hK, hc⟩ := Kd.C_get h 0 (i : Int) (by omega) (by omega)
  simp only [Int.toNat_natCast] at hc hK
  have hK' : c = [.int k (l.getD i 0)] := hK
  subst hK'
  have := hc 0 _ rfl
  rw [List.getD_eq_getElem?_getD, hi] at this
  exact ⟨ad, hA, by rwa [show (Kd.int k).sz = 1 from rfl, Nat.mul_one, Nat.add_zero] at this⟩
theorem Mod.ge {w W : World} {L : List As} (h : Mod w W No L) {i g t : Nat} {cs : Array Value} (hi : L[i]? = some (bx g t cs)) : w.heap.size ≤ g :=
  ((h.all _ (List.mem_of_getElem? hi)).2 g rfl).elim (fun h => h.elim) id
theorem Code.of {w W : World} {L : List As} {A : Option Addr} {xs : List Int} (HS : Mod w W No L) {i g t : Nat} {cs : Array Value} (hi : L[i]? = some (bx g t cs)) (hr : (Kd.int .u8).C w A xs.length xs) (hx : ∀ x ∈ xs, 0 ≤ x ∧ x < 256) : Code W g A xs.length := fun j hj => by
  have hj' : xs[j]? = some xs[j] := List.getElem?_eq_getElem hj
  obtain ⟨ad, h1, h2⟩ := ki_at hr hj'
  have h3 := HS.ge hi
  have h4 : (ad.add j).block < w.heap.size := World.block_lt_of_cell? w _ h2
  exact ⟨ad, xs[j], h1, fun e => by rw [← e] at h3; rw [add_blk] at h4; omega, HS.old h2, hx _ (List.getElem_mem hj)⟩
set_option maxHeartbeats 8000000 in
theorem specFrom (A : Option Addr) (c : Nat) (xs : List Int) (w : World) (hr : (Kd.int .u8).C w A xs.length xs) (hl : xs.length ≤ 1048576) :
    Calls Try.prog 118 #[.slice A xs.length c] w fun e w' => ∃ (g : Nat) (h : Int), e = .returned (.pointer (some ⟨g, 0, none⟩)) ∧ Sep w w' [srcB g A xs.length c 0 h] := by
  have HR := Aside0.mk hr
  have HS := Aside0.mk (Sep.refl w)
  clear hr
  go_enter Try.func118, Try.ntmps118
  go_wp2_with (first | ((with_reducible refine gate_dst (N := 11) rfl ?_); refine bxL 154 #[(.slice A xs.length c), (.int .i64 0), (.int .u64 _)] HS ?_; clear HS; intro g_s w1 hg_s HS))
  go_loopw [4] (fun q w' => ∃ (i : Nat) (h : Int), i ≤ xs.length ∧ q = .int .i64 (i : Int) ∧ Aside0 (Mod w w' No [bx g_s 154 #[.slice A xs.length c, .int .i64 0, .int .u64 h]])) (fun q _ => xs.length - (intOf q).toNat)
  case atStart => exact ⟨0, _, by omega, rfl, HS⟩
  case round =>
    clear HS
    obtain ⟨i, h, hi, rfl, HS⟩ := hrel
    by_cases hlt : i < xs.length
    · obtain ⟨x, hx⟩ : ∃ x, xs[i]? = some x := ⟨_, List.getElem?_eq_getElem hlt⟩
      obtain ⟨ad, ea, h_⟩ := ki_at HR.out hx
      have HX := Aside0.mk h_
      cases ea
      clear h_ hx
      by_cases h4 : i < 4096
      · skip
        go_wp2
        replace HS := sD HS
        refine ps (.p 0 (.p 1 (.p 2 (.p 3 (.p 6 (.p 7 (.p 8 (.t 4 (.p 5 (.t 9 (.p 10 (.p 11 (.p 12 (.p 13 (.p 14 (.d 15 .done)))))))))))))))) (fun w' => w'.cell? ⟨g_s, 2, none⟩ = some (.int .u64 h) ∧ w'.cell? (ad.add i) = some (.int .u8 x)) [15] ⟨HS.out.c 0 2 (v := .int .u64 h) rfl rfl, HS.out.old HX.out⟩ (fun hHeld => ?_)
        repeat (first | ((with_reducible refine gate_p ?_); refine rp rfl rfl ?_) | ((with_reducible refine gate_t ?_); refine rt rfl rfl hHeld ?_))
        refine run_d rfl (fun K hK => ?_)
        refine st1 HS 0 2 #[.slice (some ad) xs.length c, .int .i64 0, (.int .u64 _)] rfl rfl rfl rfl rfl ?_
        clear HS
        intro w1 HS
        refine goD hK rfl ?_
        clear hK K
        refine run_done ?_
        clear hHeld
        go_wp2
        go_roundw
        case rel => exact ⟨i + 1, _, by omega, by go_num, HS⟩
        case measure => simp [intOf]; omega
      · skip
        go_wp2
        go_ret
        exact ⟨g_s, h, rfl, HS.out⟩
    · obtain rfl : i = xs.length := by omega
      go_wp2
      go_ret
      exact ⟨g_s, h, rfl, HS.out⟩
set_option maxHeartbeats 8000000 in
theorem specNext (g : Nat) (A : Option Addr) (c m k : Nat) (h n : Int) (w : World) (ho : (srcB g A m c k h).I w) (hcd : Code w g A m) (hk : k ≤ m) (hm : m ≤ 1048576) (hn : n ≤ 4611686018427387904) :
    Calls Try.prog 120 #[.pointer (some ⟨g, 0, none⟩), .int .i64 n] w fun e w' => ∃ (r : Int) (k' : Nat) (h' : Int), e = .returned (.int .i64 r) ∧ k' ≤ m ∧ (1 ≤ n → 0 ≤ r ∧ r < n) ∧ (n < 1 → r = 0) ∧ Mod w w' (fun b => b = g) [srcB g A m c k' h'] := by
  have HS := Aside0.mk (Mod.own1 ho)
  have HC := Aside0.mk hcd
  clear ho hcd
  by_cases h1 : n < 1
  · skip
    go_enter Try.func120, Try.ntmps120
    go_wp2
    go_ret
    exact ⟨0, k, h, rfl, hk, fun h => by omega, fun _ => rfl, HS.out⟩
  · skip
    go_enter Try.func120, Try.ntmps120
    have f1_ := HS.out.c 0 2 (v := .int .u64 h) rfl rfl
    go_wp2_with (first | ((with_reducible refine gate_store (t := 152) (p := 16) rfl ?_); refine stL HS 0 2 #[.slice A m c, .int .i64 (k : Int), (.int .u64 _)] rfl rfl rfl rfl rfl ?_; clear HS f1_; intro w1 HS; have f1_ := HS.out.c 0 2 (v := (.int .u64 _)) rfl rfl))
    have hB := source_bound (IntKind.u64.wrap (h * 6364136223846793005) + 1442695040888963407)
    obtain ⟨X, hX⟩ : ∃ X, X = wrap64 (bits BinOp.and IntKind.u64 (IntKind.u64.wrap (IntKind.u64.wrap (h * 6364136223846793005) + 1442695040888963407) / 2147483648) 1073741823) := ⟨_, rfl⟩
    rw [← hX] at hB ⊢
    clear hX
    obtain ⟨H, hH⟩ : ∃ H, H = IntKind.u64.wrap (IntKind.u64.wrap (h * 6364136223846793005) + 1442695040888963407) := ⟨_, rfl⟩
    rw [← hH] at HS f1_ ⊢
    clear hH
    obtain ⟨hX0, hX1⟩ := hB
    by_cases hlt : k < m
    · obtain ⟨ad, x, ea, hne, hcell, hx0, hx1⟩ := HC.out k hlt
      have HX := Aside0.mk hcell
      have HNE := Aside0.mk (show ¬ (ad.add k).block = g by rw [add_blk]; exact hne)
      cases ea
      clear hcell hne
      clear f1_
      go_wp2
      replace HS := sD HS
      refine ps (.p 0 (.p 1 (.p 2 (.p 4 (.p 5 (.p 6 (.t 3 (.t 7 (.p 8 (.p 9 .done)))))))))) (fun w' => w'.cell? ⟨g, 1, none⟩ = some (.int .i64 (k : Int)) ∧ w'.cell? ⟨g, 0, none⟩ = some (.slice (some ad) m c)) [] ⟨HS.out.c 0 1 (v := .int .i64 (k : Int)) rfl rfl, HS.out.c 0 0 (v := .slice (some ad) m c) rfl rfl⟩ (fun hHeld => ?_)
      repeat (first | ((with_reducible refine gate_p ?_); refine rp rfl rfl ?_) | ((with_reducible refine gate_t ?_); refine rt rfl rfl hHeld ?_))
      refine run_done ?_
      clear hHeld
      go_wp2
      replace HS := sD HS
      refine ps (.p 0 (.p 1 (.p 2 (.p 3 (.p 5 (.p 6 (.p 7 (.t 4 (.t 8 (.p 9 (.t 10 (.p 11 (.p 12 (.p 13 .done)))))))))))))) (fun w' => w'.cell? ⟨g, 0, none⟩ = some (.slice (some ad) m c) ∧ w'.cell? ⟨g, 1, none⟩ = some (.int .i64 (k : Int)) ∧ w'.cell? (ad.add k) = some (.int .u8 x)) [] ⟨HS.out.c 0 0 (v := .slice (some ad) m c) rfl rfl, HS.out.c 0 1 (v := .int .i64 (k : Int)) rfl rfl, HS.out.keep HX.out HNE.out⟩ (fun hHeld => ?_)
      repeat (first | ((with_reducible refine gate_p ?_); refine rp rfl rfl ?_) | ((with_reducible refine gate_t ?_); refine rt rfl rfl hHeld ?_))
      refine run_done ?_
      clear hHeld
      have f1_ := HS.out.c 0 1 (v := .int .i64 (k : Int)) rfl rfl
      go_wp2_with (first | ((with_reducible refine gate_store (t := 3) (p := 54) rfl ?_); refine stL HS 0 1 #[.slice (some ad) m c, (.int .i64 ((k + 1 : Nat) : Int)), .int .u64 H] rfl rfl rfl rfl rfl ?_; clear HS f1_; intro w1 HS))
      go_ret
      refine ⟨_, k + 1, H, rfl, by omega, fun _ => ?_, fun h => absurd h (by omega), HS.out⟩
      rw [wrap_id (x := x) (by omega) (by omega), wrap_id (x := X + x) (by omega) (by omega)]
      first | exact tmod_bound (by omega) (by omega) | exact ⟨Int.emod_nonneg _ (by omega), Int.emod_lt_of_pos _ (by omega)⟩
    · skip
      clear f1_
      go_wp2
      replace HS := sD HS
      refine ps (.p 0 (.p 1 (.p 2 (.p 4 (.p 5 (.p 6 (.t 3 (.t 7 (.p 8 (.p 9 .done)))))))))) (fun w' => w'.cell? ⟨g, 1, none⟩ = some (.int .i64 (k : Int)) ∧ w'.cell? ⟨g, 0, none⟩ = some (.slice A m c)) [] ⟨HS.out.c 0 1 (v := .int .i64 (k : Int)) rfl rfl, HS.out.c 0 0 (v := .slice A m c) rfl rfl⟩ (fun hHeld => ?_)
      repeat (first | ((with_reducible refine gate_p ?_); refine rp rfl rfl ?_) | ((with_reducible refine gate_t ?_); refine rt rfl rfl hHeld ?_))
      refine run_done ?_
      clear hHeld
      go_wp2
      go_ret
      refine ⟨_, k, H, rfl, by omega, fun _ => ?_, fun h => absurd h (by omega), HS.out⟩
      skip
      first | exact tmod_bound (by omega) (by omega) | exact ⟨Int.emod_nonneg _ (by omega), Int.emod_lt_of_pos _ (by omega)⟩
/-- A row of ints that is drawn from. -/
abbrev rowI (A : Option Addr) (c : Nat) (l : List Int) : As := rw' (Kd.int .i64) rfl 2 (.slice A l.length c) l
theorem Mod.disj {w W : World} {S : Nat → Prop} {L : List As} (h : Mod w W S L) {i j : Nat} {a b : As} (hi : L[i]? = some a) (hj : L[j]? = some b) (hij : i < j) : ∀ k, a.S k → b.S k → False := by
  obtain ⟨h1, rfl⟩ := List.getElem?_eq_some_iff.1 hi
  obtain ⟨h2, rfl⟩ := List.getElem?_eq_some_iff.1 hj
  exact List.pairwise_iff_getElem.1 h.dis i j h1 h2 hij
theorem rowCell {w W : World} {g b : Nat} {S : Nat → Prop} {L : List As} {ad : Addr} {l : List Int} (M : Mod w W S L) (hr : (rowI (some ad) b l).I w) (hS : ∀ k, S k → k = g) (hne : ∀ k, (rowI (some ad) b l).S k → k ≠ g) {i : Nat} {x : Int} (hx : l[i]? = some x) : W.cell? (ad.add i) = some (.int .i64 x) := by
  have h1 : (rowI (some ad) b l).I W := (rowI (some ad) b l).mv (fun k hk => M.block k ((rowI (some ad) b l).lt hr k hk) (fun h => hne k hk (hS k h))) hr
  obtain ⟨ad', ea, hc⟩ := ki_at (Kd.R_reads' h1).2.2 hx
  cases ea
  exact hc
set_option maxHeartbeats 8000000 in
theorem specPick (g : Nat) (A : Option Addr) (c m k : Nat) (h : Int) (B : Option Addr) (b : Nat) (l : List Int) (w : World) (ho : (srcB g A m c k h).I w) (hcd : Code w g A m) (hk : k ≤ m) (hm : m ≤ 1048576) (hr : (rowI B b l).I w) (hne : ∀ k, (rowI B b l).S k → k ≠ g) (hl0 : 1 ≤ l.length) (hl : l.length ≤ 1000) :
    Calls Try.prog 119 #[.pointer (some ⟨g, 0, none⟩), .slice B l.length b] w fun e w' => ∃ (r : Int) (k' : Nat) (h' : Int), e = .returned (.int .i64 r) ∧ k' ≤ m ∧ r ∈ l ∧ Mod w w' (fun b => b = g) [srcB g A m c k' h'] := by
  obtain ⟨ad, ea, h_⟩ := ki_at (Kd.R_reads' hr).2.2 (show l[0]? = some l[0] from List.getElem?_eq_getElem (by omega))
  clear h_
  cases ea
  have HS := Aside0.mk (Mod.own1 ho)
  have HC := Aside0.mk hcd
  have HR := Aside0.mk hr
  have HNE := Aside0.mk hne
  have HN := Aside0.mk (fun W k1 k2 => specNext g A c m k h (l.length : Int) W k1 k2 hk hm (by omega))
  clear ho hcd hr hne
  go_enter Try.func119, Try.ntmps119
  go_wp2_with (first | (go_at_call 120; refine (HN.out _ (HS.out.at (i := 0) rfl) (HC.out.mod HS.out (fun _ h => h))).mono ?_; rintro e_ w1 ⟨r, k1, h1, rfl, hk1, hr1, hr2, hs⟩; replace HS : Aside0 (Mod _ _ _ [_]) := sM1 HS 0 [] rfl hs; clear hs; obtain ⟨hr3, hr4⟩ := hr1 (by omega); clear hr1 hr2; obtain ⟨i, rfl⟩ : ∃ i : Nat, r = i := ⟨r.toNat, by omega⟩; obtain ⟨x, hx⟩ : ∃ x, l[i]? = some x := ⟨_, List.getElem?_eq_getElem (by omega)⟩; have HX := Aside0.mk hx; clear hx; have hil : i < l.length := (by omega); clear hr3 hr4; have f1_ := rowCell HS.out HR.out (fun _ h => h) HNE.out HX.out))
  go_ret
  exact ⟨x, k1, h1, rfl, hk1, List.mem_of_getElem? HX.out, HS.out⟩
end Go.Proofs.Ytaheikponfmdiaa.H


