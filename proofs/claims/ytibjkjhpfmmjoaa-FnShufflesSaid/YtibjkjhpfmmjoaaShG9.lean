/- Plain facts and contracts of functions that the law's walk uses. Conditions: those that stand in each statement. -/
import Derived.Test.YtibjkjhpfmmjoaaShG8
import Derived.Test.YtibjkjhpfmmjoaaShG5
import Derived.Test.YtibjkjhpfmmjoaaShG6
import Derived.Test.YtibjkjhpfmmjoaaShG3
set_option linter.unusedVariables false
set_option linter.unusedSimpArgs false
namespace Go.Proofs.Ytibjkjhpfmmjoaa.H
open Go.RowKit Go.Proofs.YtibjkjhpfmmjoaaW.PrintWords Go.Proofs.YtibjkjhpfmmjoaaW.PrintLast Go.Proofs.YtibjkjhpfmmjoaaW.PrintMore Go.Proofs.Ytibjkjhpfmmjoaa.M
attribute [local go_sem] max2_int min2_int max_two min_two max_three min_three max_four min_four
set_option linter.unusedVariables false
set_option linter.unusedSimpArgs false
set_option maxRecDepth 100000
set_option maxHeartbeats 8000000 in
theorem specDrawFrac (g : Nat) (A : Option Addr) (c m k : Nat) (h : Int) (w : World) (ho : (srcB g A m c k h).I w) (hcd : Code w g A m) (hk : k ≤ m) (hm : m ≤ 1048576) :
    Calls Try.prog 138 #[.pointer (some ⟨g, 0, none⟩)] w fun e w' => ∃ (x y : Int) (k' : Nat) (h' : Int), e = .returned (.agg #[.int .i64 x, .int .i64 y]) ∧ k' ≤ m ∧ Mod w w' (fun b => b = g) [srcB g A m c k' h'] := by
  have HS := Aside0.mk (Mod.own1 ho)
  have HC := Aside0.mk hcd
  have HN := Aside0.mk (fun k h n W k1 k2 hk h1 => specNext g A c m k h n W k1 k2 hk hm h1)
  have HP := Aside0.mk (fun k h B b W k1 k2 hk k3 k4 => specPick g A c m k h B b [1, 1, 1, 2, 3, 4, 6] W k1 k2 hk hm k3 k4 (by decide) (by decide))
  clear ho hcd
  go_enter Try.func138, Try.ntmps138
  go_wp2_with (first | ((with_reducible refine gate_dst (N := 2) rfl ?_); refine bxL 34 #[(.int .i64 0), (.int .i64 0)] HS ?_; clear HS; intro g_r w1 hg_r HS) | (go_at_call 57; refine (HN.out k h 19 _ (HS.out.at (i := 1) rfl) (HC.out.mod (HS.out.sel [0] (by decide)) (fun _ h => h)) hk (by omega)).mono ?_; rintro e_ w1 ⟨x, k1, h1, rfl, hk1, hr1, hr2, hs⟩; replace HS : Aside0 (Mod _ _ _ [_, _]) := sM1 HS 1 [0] rfl hs; clear hs; obtain ⟨hx0, hx1⟩ := hr1 (by omega); clear hr1 hr2) | ((with_reducible refine gate_dst (N := 10) rfl ?_); refine wpList_stp (fun K hK => ?_); refine stp_lit (Kd.int .i64) rfl 2 (by rfl) HS (xs := [1, 1, 1, 2, 3, 4, 6]) (inner := [.int .i64 1, .int .i64 1, .int .i64 1, .int .i64 2, .int .i64 3, .int .i64 4, .int .i64 6]) (by first | (go_simp; done) | (go_simp; rfl)) (fun W base ok => reps_ints W base ok _) (by simp) ?_; clear HS; intro A_l c_l w1 HS; refine hK _ _ ?_; clear hK K) | (go_at_call 74; refine (HP.out k1 h1 A_l c_l _ (HS.out.at (i := 1) rfl) (HC.out.mod HS.out (fun _ h => h)) hk1 (HS.out.at (i := 0) rfl) (fun q h1 h2 => HS.out.disj (i := 0) (j := 1) rfl rfl (by decide) q h1 h2)).mono ?_; rintro e_ w1 ⟨y, k2, h2, rfl, hk2, hr, hs⟩; replace HS : Aside0 (Mod _ _ _ [_, _, _]) := sM1 HS 1 [0, 2] rfl hs; clear hs; obtain ⟨hy0, hy1⟩ : 1 ≤ y ∧ y ≤ 6 := (by simp only [List.mem_cons, List.not_mem_nil, or_false] at hr; omega); clear hr) | (go_at_call 139; refine (specFrac (x - 9) y _ (by omega) (by omega) (by omega) (by omega)).mono ?_; rintro e_ w1 ⟨rfl, hb⟩; replace HS := sB HS hb; clear hb) | ((with_reducible refine gate_dst (N := 3) rfl ?_); refine bxL 34 #[(.int .i64 0), (.int .i64 0)] HS ?_; clear HS; intro g_q w1 hg_q HS) | ((with_reducible refine gate_store (t := 34) (p := 3) rfl ?_); refine stL HS 0 0 #[.int .i64 (sfrac (frac (x - 9) y)).1.1, .int .i64 (sfrac (frac (x - 9) y)).1.2] rfl rfl rfl rfl rfl ?_; clear HS; intro w1 HS; have f1_ := HS.out.c 0 0 (v := .int .i64 (sfrac (frac (x - 9) y)).1.1) rfl rfl; have f2_ := HS.out.c 0 1 (v := .int .i64 (sfrac (frac (x - 9) y)).1.2) rfl rfl) | ((with_reducible refine gate_store (t := 34) (p := 2) rfl ?_); refine stL HS 3 0 #[.int .i64 (sfrac (frac (x - 9) y)).1.1, .int .i64 (sfrac (frac (x - 9) y)).1.2] rfl rfl rfl rfl rfl ?_; clear HS f1_ f2_; intro w1 HS))
  refine bodyPost_ret (results_cell_row rfl _ _ g_r 34 #[.int .i64 (sfrac (frac (x - 9) y)).1.1, .int .i64 (sfrac (frac (x - 9) y)).1.2] (0, 0) _ rfl (HS.out.at (i := 3) rfl) Try.underlying34 rfl (by kernel_rfl)) rfl ?_
  exact ⟨_, _, k2, h2, rfl, hk2, HS.out.sel [1] (by decide)⟩
set_option maxHeartbeats 8000000 in
theorem specLike (g : Nat) (A : Option Addr) (c m k : Nat) (h : Int) (w : World) (ho : (srcB g A m c k h).I w) (hcd : Code w g A m) (hk : k ≤ m) (hm : m ≤ 1048576) :
    Calls Try.prog 84 #[.pointer (some ⟨g, 0, none⟩)] w fun e w' => ∃ (d n : Int) (B : Option Addr) (b k' : Nat) (h' : Int), e = .returned (.agg #[.int .i64 d, .int .i64 n, .slice B 0 b]) ∧ 1 ≤ d ∧ d ≤ 3 ∧ 1 ≤ n ∧ n ≤ 6 ∧ k' ≤ m ∧ Mod w w' (fun b => b = g) [srcB g A m c k' h'] := by
  have HS := Aside0.mk (Mod.own1 ho)
  have HC := Aside0.mk hcd
  have HP := Aside0.mk (fun k h B b W k1 k2 hk k3 k4 => specPick g A c m k h B b [1, 2, 2, 2, 3] W k1 k2 hk hm k3 k4 (by decide) (by decide))
  have HP2 := Aside0.mk (fun k h B b (x : Int) W k1 k2 hk k3 k4 => specPick g A c m k h B b [1, 2, 2, 3, 3, 4, x] W k1 k2 hk hm k3 k4 (by simp) (by simp))
  clear ho hcd
  go_enter Try.func84, Try.ntmps84
  have tk1_ : True := trivial
  go_wp2_with (first | ((with_reducible refine gate_dst (N := 2) rfl ?_); refine bxL 26 #[(.int .i64 0), (.int .i64 0), (.slice none 0 0)] HS ?_; clear HS; intro g_r w1 hg_r HS) | ((with_reducible refine gate_dst (N := 5) rfl ?_); refine wpList_stp (fun K hK => ?_); refine stp_lit (Kd.int .i64) rfl 2 (by rfl) HS (xs := [1, 2, 2, 2, 3]) (inner := [.int .i64 1, .int .i64 2, .int .i64 2, .int .i64 2, .int .i64 3]) (by first | (go_simp; done) | (go_simp; rfl)) (fun W base ok => reps_ints W base ok _) (by simp) ?_; clear HS; intro A_l c_l w1 HS; refine hK _ _ ?_; clear hK K) | (go_at_call 74; clear tk1_; refine (HP.out k h A_l c_l _ (HS.out.at (i := 2) rfl) (HC.out.mod HS.out (fun _ h => h)) hk (HS.out.at (i := 0) rfl) (fun q h1 h2 => HS.out.disj (i := 0) (j := 2) rfl rfl (by decide) q h1 h2)).mono ?_; rintro e_ w1 ⟨d, k1, h1, rfl, hk1, hr, hs⟩; replace HS : Aside0 (Mod _ _ _ [_, _, _]) := sM1 HS 2 [0, 1] rfl hs; clear hs; obtain ⟨hd0, hd1⟩ : 1 ≤ d ∧ d ≤ 3 := (by simp only [List.mem_cons, List.not_mem_nil, or_false] at hr; omega); clear hr) | ((with_reducible refine gate_dst (N := 11) rfl ?_); refine wpList_stp (fun K hK => ?_); refine stp_lit (Kd.int .i64) rfl 2 (by rfl) HS (xs := [1, 2, 2, 3, 3, 4, 7 - d]) (inner := [.int .i64 1, .int .i64 2, .int .i64 2, .int .i64 3, .int .i64 3, .int .i64 4, .int .i64 (7 - d)]) (by first | (go_simp; done) | (go_simp; rfl)) (fun W base ok => reps_ints W base ok _) (by simp) ?_; clear HS; intro A_l2 c_l2 w1 HS; refine hK _ _ ?_; clear hK K) | (go_at_call 74; refine (HP2.out k1 h1 A_l2 c_l2 (7 - d) _ (HS.out.at (i := 1) rfl) (HC.out.mod HS.out (fun _ h => h)) hk1 (HS.out.at (i := 0) rfl) (fun q h1 h2 => HS.out.disj (i := 0) (j := 1) rfl rfl (by decide) q h1 h2)).mono ?_; rintro e_ w1 ⟨n, k2, h2, rfl, hk2, hr, hs⟩; replace HS : Aside0 (Mod _ _ _ [_, _, _, _]) := sM1 HS 1 [0, 2, 3] rfl hs; clear hs; obtain ⟨hn0, hn1⟩ : 1 ≤ n ∧ n ≤ 6 := (by simp only [List.mem_cons, List.not_mem_nil, or_false] at hr; omega); clear hr) | ((with_reducible refine gate_dst (N := 13) rfl ?_); refine wpList_stp (fun K hK => ?_); refine stp_lit (KT) rfl 38 (by rfl) HS (xs := ([] : Ts)) (inner := []) (by first | (go_simp; done) | (go_simp; rfl)) (fun W base ok => Reps.none _ _) (by simp) ?_; clear HS; intro A_o c_o w1 HS; refine hK _ _ ?_; clear hK K) | ((with_reducible refine gate_store (t := 26) (p := 2) rfl ?_); refine stL HS 4 0 #[(.int .i64 d), (.int .i64 n), (.slice A_o (([] : Ts)).length c_o)] rfl rfl rfl rfl rfl ?_; clear HS; intro w1 HS))
  refine bodyPost_ret (results_cell_row rfl _ _ g_r 26 #[(.int .i64 d), (.int .i64 n), (.slice A_o (([] : Ts)).length c_o)] (0, 0) _ rfl (HS.out.at (i := 4) rfl) Try.underlying26 rfl (by kernel_rfl)) rfl ?_
  exact ⟨d, n, A_o, c_o, k2, h2, rfl, hd0, hd1, hn0, hn1, hk2, HS.out.sel [1] (by decide)⟩
set_option maxHeartbeats 8000000 in
theorem specFit (d n : Int) (A : Option Addr) (m c : Nat) (w : World) (hd0 : 1 ≤ d) (hd1 : d ≤ 3) (hn0 : 1 ≤ n) (hn1 : n ≤ 6) :
    Calls Try.prog 83 #[.agg #[.int .i64 d, .int .i64 n, .slice A m c]] w fun e w' => ∃ n' : Int, e = .returned (.agg #[.int .i64 d, .int .i64 n', .slice A m c]) ∧ 1 ≤ n' ∧ n' ≤ 5 ∧ (d = 3 → n' ≤ 4) ∧ Below w.heap.size w w' := by
  have HS := Aside0.mk (Sep.refl w)
  by_cases h3 : d = 3
  · subst h3
    go_enter Try.func83, Try.ntmps83
    go_wp2_with (first | ((with_reducible refine gate_dst (N := 1) rfl ?_); refine bxL 26 #[.int .i64 3, .int .i64 n, .slice A m c] HS ?_; clear HS; intro g_x w1 hg_x HS) | ((with_reducible refine gate_dst (N := 2) rfl ?_); refine bxL 26 #[(.int .i64 0), (.int .i64 0), (.slice none 0 0)] HS ?_; clear HS; intro g_r w1 hg_r HS; have f1_ := HS.out.c 1 1 (v := .int .i64 n) rfl rfl) | ((with_reducible refine gate_store (t := 2) (p := 6) rfl ?_); refine stL HS 1 1 #[.int .i64 3, (.int .i64 _), .slice A m c] rfl rfl rfl rfl rfl ?_; clear HS f1_; intro w1 HS; have f1_ := HS.out.c 1 0 (v := .int .i64 3) rfl rfl; have f2_ := HS.out.c 1 1 (v := (.int .i64 _)) rfl rfl) | ((with_reducible refine gate_store (t := 2) (p := 13) rfl ?_); refine stL HS 1 1 #[.int .i64 3, (.int .i64 _), .slice A m c] rfl rfl rfl rfl rfl ?_; clear HS f1_ f2_; intro w1 HS; have f1_ := HS.out.c 1 0 (v := .int .i64 3) rfl rfl; have f2_ := HS.out.c 1 1 (v := (.int .i64 _)) rfl rfl; have f3_ := HS.out.c 1 2 (v := .slice A m c) rfl rfl) | ((with_reducible refine gate_store (t := 26) (p := 2) rfl ?_); refine stL HS 0 0 #[.int .i64 3, (.int .i64 _), .slice A m c] rfl rfl rfl rfl rfl ?_; clear HS f1_ f2_ f3_; intro w1 HS))
    all_goals
      refine bodyPost_ret (results_cell_row rfl _ _ g_r 26 #[.int .i64 3, (.int .i64 _), .slice A m c] (0, 0) _ rfl (HS.out.at (i := 0) rfl) Try.underlying26 rfl (by kernel_rfl)) rfl ?_
      first | refine ⟨_, rfl, ?_, ?_, ?_, HS.out.below⟩ | refine ⟨_, rfl, ?_, ?_, HS.out.below⟩
      all_goals (try intro h_)
      all_goals (repeat' split)
      all_goals omega
  · have hb : (d == 3) = false := by simpa using h3
    go_enter Try.func83, Try.ntmps83
    go_wp2_with (first | ((with_reducible refine gate_dst (N := 1) rfl ?_); refine bxL 26 #[.int .i64 d, .int .i64 n, .slice A m c] HS ?_; clear HS; intro g_x w1 hg_x HS) | ((with_reducible refine gate_dst (N := 2) rfl ?_); refine bxL 26 #[(.int .i64 0), (.int .i64 0), (.slice none 0 0)] HS ?_; clear HS; intro g_r w1 hg_r HS; have f1_ := HS.out.c 1 1 (v := .int .i64 n) rfl rfl) | ((with_reducible refine gate_store (t := 2) (p := 6) rfl ?_); refine stL HS 1 1 #[.int .i64 d, (.int .i64 _), .slice A m c] rfl rfl rfl rfl rfl ?_; clear HS f1_; intro w1 HS; have f1_ := HS.out.c 1 0 (v := .int .i64 d) rfl rfl; have f2_ := HS.out.c 1 1 (v := (.int .i64 _)) rfl rfl; have f3_ := HS.out.c 1 2 (v := .slice A m c) rfl rfl) | ((with_reducible refine gate_store (t := 26) (p := 2) rfl ?_); refine stL HS 0 0 #[.int .i64 d, (.int .i64 _), .slice A m c] rfl rfl rfl rfl rfl ?_; clear HS f1_ f2_ f3_; intro w1 HS))
    all_goals
      refine bodyPost_ret (results_cell_row rfl _ _ g_r 26 #[.int .i64 d, (.int .i64 _), .slice A m c] (0, 0) _ rfl (HS.out.at (i := 0) rfl) Try.underlying26 rfl (by kernel_rfl)) rfl ?_
      first | refine ⟨_, rfl, ?_, ?_, ?_, HS.out.below⟩ | refine ⟨_, rfl, ?_, ?_, HS.out.below⟩
      all_goals (try intro h_)
      all_goals (repeat' split)
      all_goals omega
set_option maxHeartbeats 16000000 in
theorem specDrawOf (g : Nat) (A : Option Addr) (c m k : Nat) (h : Int) (d n : Nat) (B0 : Option Addr) (m0 c0 : Nat) (w : World) (ho : (srcB g A m c k h).I w) (hcd : Code w g A m) (hk : k ≤ m) (hm : m ≤ 1048576) (hd1 : 1 ≤ d) (hd : d ≤ 3) (hn : n ≤ 5) :
    Calls Try.prog 112 #[.pointer (some ⟨g, 0, none⟩), .agg #[.int .i64 (d : Int), .int .i64 (n : Int), .slice B0 m0 c0]] w fun e w' => ∃ (B : Option Addr) (b : Nat) (l : Ts) (k' : Nat) (h' : Int), e = .returned (.agg #[.int .i64 (d : Int), .int .i64 (n : Int), .slice B l.length b]) ∧ k' ≤ m ∧ bnd l = true ∧ l.length ≤ 100000 ∧ Mod w w' (fun b => b = g) [srcB g A m c k' h', rowT B b l] := by
  have HS := Aside0.mk (Mod.own1 ho)
  have HC := Aside0.mk hcd
  have HN := Aside0.mk (fun k h n W k1 k2 hk h1 => specNext g A c m k h n W k1 k2 hk hm h1)
  have HF := Aside0.mk (fun k h W k1 k2 hk => specDrawFrac g A c m k h W k1 k2 hk hm)
  have HWD := Aside0.mk (fun j X (h : j ≤ 5) => specWordsS d j X hd (by omega))
  have HWL := Aside0.mk (fun j (h : j ≤ 5) => wordsN_le (d := d) (n := j) hd (by omega))
  have HSZ := Aside0.mk (fun (j i : Nat) (s : ByteArray) (h : (wordsN d j)[i]? = some s) => (wordsN_size (List.mem_of_getElem? h) : s.size = j))
  clear ho hcd
  go_enter Try.func112, Try.ntmps112
  go_wp2_with (first | ((with_reducible refine gate_dst (N := 3) rfl ?_); refine bxL 26 #[.int .i64 (d : Int), .int .i64 (n : Int), .slice B0 m0 c0] HS ?_; clear HS; intro g_x w1 hg_x HS) | ((with_reducible refine gate_dst (N := 4) rfl ?_); refine bxL 26 #[(.int .i64 0), (.int .i64 0), (.slice none 0 0)] HS ?_; clear HS; intro g_r w1 hg_r HS; have f1_ := HS.out.c 1 0 (v := .int .i64 (d : Int)) rfl rfl; have f2_ := HS.out.c 1 1 (v := .int .i64 (n : Int)) rfl rfl; have f3_ := HS.out.c 1 2 (v := .slice B0 m0 c0) rfl rfl) | (go_at_call 62; refine (specEmpty d n B0 m0 c0 _).mono ?_; rintro e_ w1 ⟨B, b, rfl, hs⟩; replace HS := sN1 HS hs; clear hs f1_ f2_ f3_) | ((with_reducible refine gate_dst (N := 5) rfl ?_); refine bxL 26 #[(.int .i64 0), (.int .i64 0), (.slice none 0 0)] HS ?_; clear HS; intro g_q w1 hg_q HS) | ((with_reducible refine gate_store (t := 26) (p := 5) rfl ?_); refine stL HS 0 0 #[.int .i64 (d : Int), .int .i64 (n : Int), .slice B ([] : Ts).length b] rfl rfl rfl rfl rfl ?_; clear HS; intro w1 HS))
  go_loopw [6] (fun v w' => ∃ (j : Nat) (B : Option Addr) (b : Nat) (z : Ts) (k1 : Nat) (h1 : Int), j ≤ n + 1 ∧ v = .int .i64 (j : Int) ∧ k1 ≤ m ∧ z.length ≤ j * 6561 ∧ Aside0 (∀ t ∈ z, t.1.size ≤ 5) ∧ Aside0 (Mod w w' (srcB g A m c k h).S [bx g_q 26 #[.int .i64 (d : Int), .int .i64 (n : Int), .slice B z.length b], rowT B b z, bx g_r 26 #[(.int .i64 0), (.int .i64 0), (.slice none 0 0)], bx g_x 26 #[.int .i64 (d : Int), .int .i64 (n : Int), .slice B0 m0 c0], bx g 98 #[.slice A m c, .int .i64 (k1 : Int), .int .u64 h1]])) (fun v _ => n + 1 - (intOf v).toNat)
  case atStart => exact ⟨0, B, b, [], k, h, by omega, rfl, hk, by simp, ⟨fun t ht => by cases ht⟩, HS⟩
  case round =>
    clear HS
    obtain ⟨j, B, b, z, k1, h1, hj, rfl, hk1, hz, HZ, HS⟩ := hrel
    by_cases hlt : j ≤ n
    · have HWJ := Aside0.mk (fun X => HWD.out j X (by omega))
      have hul : (wordsN d j).length ≤ 6561 := HWL.out j (by omega)
      have HSJ := Aside0.mk (fun i s h => HSZ.out j i s h)
      obtain ⟨us, hus⟩ : ∃ us, us = wordsN d j := ⟨_, rfl⟩
      rw [← hus] at HWJ hul HSJ
      clear hus
      have f1_ := HS.out.c 3 1 (v := .int .i64 (n : Int)) rfl rfl
      have f2_ := HS.out.c 3 0 (v := .int .i64 (d : Int)) rfl rfl
      go_wp2_with (first | (go_at_call 118; refine (HWJ.out _).mono ?_; rintro e_ w1 ⟨B1, b1, rfl, hs⟩; replace HS := sN1 HS hs; clear hs f1_ f2_))
      go_loopw [8] (fun v w' => ∃ (i : Nat) (B : Option Addr) (b : Nat) (z : Ts) (k1 : Nat) (h1 : Int), i ≤ us.length ∧ v = .int .i64 (i : Int) ∧ k1 ≤ m ∧ z.length ≤ j * 6561 + i ∧ Aside0 (∀ t ∈ z, t.1.size ≤ 5) ∧ Aside0 (Mod w w' (srcB g A m c k h).S [rowS B1 b1 us, bx g_q 26 #[.int .i64 (d : Int), .int .i64 (n : Int), .slice B z.length b], rowT B b z, bx g_r 26 #[(.int .i64 0), (.int .i64 0), (.slice none 0 0)], bx g_x 26 #[.int .i64 (d : Int), .int .i64 (n : Int), .slice B0 m0 c0], bx g 98 #[.slice A m c, .int .i64 (k1 : Int), .int .u64 h1]])) (fun v _ => us.length - (intOf v).toNat)
      case atStart => exact ⟨0, B, b, z, k1, h1, by omega, rfl, hk1, by omega, HZ, HS⟩
      case round =>
        clear HS HZ
        obtain ⟨i, B, b, z, k1, h1, hi, rfl, hk1, hz, HZ, HS⟩ := hrel
        by_cases hlt2 : i < us.length
        · obtain ⟨ad, ea, h_⟩ := str_at (HS.out.reads 0 rfl) i hlt2
          clear h_
          cases ea
          obtain ⟨u, hu⟩ : ∃ s, us[i]? = some s := ⟨_, List.getElem?_eq_getElem hlt2⟩
          have HE := Aside0.mk hu
          have hus := HSJ.out i u hu
          have hu5 : u.size ≤ 5 := by omega
          clear hu hus
          obtain ⟨p, hp⟩ : ∃ p : Nat, p = us.length / 3 := ⟨_, rfl⟩
          have hp9 : p ≤ 6561 := by omega
          have hq3 : (us.length : Int) / 3 = (p : Int) := by omega
          clear hp
          by_cases h4 : 4 < us.length
          · have h4b : ((4 : Int) < (us.length : Int)) := by omega
            have tk2_ : True := trivial
            go_wp2_with (first | (go_at_call 57; clear tk2_; refine (HN.out k1 h1 ((p : Int) + 1) _ (HS.out.at (i := 5) rfl) (HC.out.mod (HS.out.sel [5] (by decide)) (fun _ h => h)) hk1 (by omega)).mono ?_; rintro e_ w1 ⟨r1, k2, h2, rfl, hk2, hr1, hr2, hs⟩; replace HS : Aside0 (Mod _ _ _ [_, _, _, _, _, _]) := sM1 HS 5 [0, 1, 2, 3, 4] rfl hs; clear hs; clear hr1 hr2; have hd_ : (0 < r1) ∨ ¬ (0 < r1) := (by omega); rcases hd_ with hr1_ | hr1_) | (go_at_call 57; refine (HN.out k2 h2 3 _ (HS.out.at (i := 0) rfl) (HC.out.mod (HS.out.sel [5] (by decide)) (fun _ h => h)) hk2 (by omega)).mono ?_; rintro e_ w1 ⟨q1, k3, h3, rfl, hk3, hr1, hr2, hs⟩; replace HS : Aside0 (Mod _ _ _ [_, _, _, _, _, _]) := sM1 HS 0 [1, 2, 3, 4, 5] rfl hs; clear hs; clear hr1 hr2; have hd_ : (q1 == 0) = true ∨ (q1 == 0) = false := (by cases (q1 == 0) <;> simp); rcases hd_ with hq1_ | hq1_) | (go_at_call 138; refine (HF.out k3 h3 _ (HS.out.at (i := 0) rfl) (HC.out.mod (HS.out.sel [5] (by decide)) (fun _ h => h)) hk3).mono ?_; rintro e_ w1 ⟨x1, y1, k4, h4, rfl, hk4, hs⟩; replace HS : Aside0 (Mod _ _ _ [_, _, _, _, _, _]) := sM1 HS 0 [1, 2, 3, 4, 5] rfl hs; clear hs; have hd_ : (x1 == 0) = true ∨ (x1 == 0) = false := (by cases (x1 == 0) <;> simp); rcases hd_ with hx1_ | hx1_) | ((with_reducible refine gate_dst (N := 9) rfl ?_); refine bxL 34 #[(.int .i64 0), (.int .i64 0)] HS ?_; clear HS; intro g_f w1 hg_f HS) | ((with_reducible refine gate_store (t := 34) (p := 9) rfl ?_); refine stL HS 0 0 #[.int .i64 x1, .int .i64 y1] rfl rfl rfl rfl rfl ?_; clear HS; intro w1 HS; have f1_ := HS.out.c 0 0 (v := .int .i64 x1) rfl rfl; have f2_ := HS.out.c 0 1 (v := .int .i64 y1) rfl rfl) | (go_at_call 108; refine (specZero _ _ _).mono ?_; rintro e_ w1 ⟨rfl, hb⟩; replace HS := sB HS hb; clear hb f1_ f2_))
            repeat (focus ((go_roundw; (case rel => first | exact ⟨i + 1, B, b, z, _, _, by omega, by go_num, by assumption, by omega, HZ, sX HS [1, 2, 3, 4, 5, 0]⟩ | exact ⟨i + 1, B, b, z, _, _, by omega, by go_num, by assumption, by omega, HZ, sX HS [2, 3, 4, 5, 6, 1]⟩); (case measure => simp [intOf]; omega)); done))
            replace HS := sD HS
            refine ps (.p 0 (.p 2 (.p 3 (.p 4 (.t 1 (.t 5 (.t 6 (.p 7 (.e 8 (.d 9 (.p 10 (.d 11 .done)))))))))))) (fun w' => w'.cell? ⟨g_q, 2, none⟩ = some (.slice B z.length b) ∧ w'.cell? (ad.add i) = some (.string u) ∧ w'.cell? ⟨g_f, 0, none⟩ = some (.int .i64 x1) ∧ w'.cell? ⟨g_f, 1, none⟩ = some (.int .i64 y1)) [9, 11] ⟨HS.out.c 3 2 (v := .slice B z.length b) rfl rfl, HS.out.sx 2 rfl HE.out, HS.out.c 0 0 (v := .int .i64 x1) rfl rfl, HS.out.c 0 1 (v := .int .i64 y1) rfl rfl⟩ (fun hHeld => ?_)
            repeat (first | ((with_reducible refine gate_p ?_); refine rp rfl rfl ?_) | ((with_reducible refine gate_t ?_); refine rt rfl rfl hHeld ?_))
            refine run_e rfl (fun K hK => ?_)
            refine stp_lit (KT) rfl 38 (by rfl) HS (xs := [((u, x1, y1) : Tm)]) (inner := [.string u, .int .i64 x1, .int .i64 y1]) (by first | (go_simp; done) | (go_simp; rfl)) (fun W base ok => Reps.snoc (Reps.none _ _) (KT_M (u, x1, y1) W base ok) rfl) (by simp) ?_
            clear HS
            intro A_t c_t w1 HS
            refine ge hK ⟨HS.out.c 4 2 (v := .slice B z.length b) rfl rfl, HS.out.sx 3 rfl HE.out, HS.out.c 1 0 (v := .int .i64 x1) rfl rfl, HS.out.c 1 1 (v := .int .i64 y1) rfl rfl⟩ (fun hHeld => ?_)
            clear hK K
            refine run_d rfl (fun K hK => ?_)
            refine stp_rows KT rfl (fun _ _ _ _ _ h => h) (by rfl) HS 5 rfl (.tmp 51) (.tmp 58) 24 (.agg #[(.string ⟨#[]⟩), (.int .i64 0), (.int .i64 0)]) 32 rfl Try.underlying24 infoTerm (by kernel_rfl) [((u, x1, y1) : Tm)] rfl rfl (HS.out.reads 0 rfl) (by show (z.length + 1) * 32 ≤ _; omega) ?_
            clear HS
            intro A_y' c_y' y' w1 Ny' HS
            simp only [List.set_cons_zero, List.set_cons_succ] at HS
            refine gd hK ?_
            clear hK K
            repeat (first | ((with_reducible refine gate_p ?_); refine rp rfl rfl ?_) | ((with_reducible refine gate_t ?_); refine rt rfl rfl hHeld ?_))
            refine run_d rfl (fun K hK => ?_)
            refine st1 HS 4 2 #[.int .i64 (d : Int), .int .i64 (n : Int), (.slice A_y' y'.length c_y')] rfl rfl rfl rfl rfl ?_
            clear HS
            intro w1 HS
            refine goD hK rfl ?_
            clear hK K
            refine run_done ?_
            clear hHeld
            go_wp2
            repeat (focus ((go_roundw; (case rel => first | exact ⟨i + 1, B, b, z, _, _, by omega, by go_num, by assumption, by omega, HZ, sX HS [1, 2, 3, 4, 5, 0]⟩ | exact ⟨i + 1, B, b, z, _, _, by omega, by go_num, by assumption, by omega, HZ, sX HS [2, 3, 4, 5, 6, 1]⟩); (case measure => simp [intOf]; omega)); done))
            have HZ2 := Aside0.mk (show ∀ t ∈ y', t.1.size ≤ 5 by rw [Ny'.out]; intro t ht; rcases List.mem_append.1 ht with ht | ht; exact HZ.out t ht; rw [List.mem_singleton.1 ht]; exact hu5)
            have hyl : y'.length ≤ j * 6561 + (i + 1) := by rw [Ny'.out, List.length_append, List.length_singleton]; omega
            go_roundw
            case rel => exact ⟨i + 1, A_y', c_y', y', k4, h4, by omega, by go_num, hk4, hyl, HZ2, sX HS [3, 4, 5, 6, 7, 2]⟩
            case measure => simp [intOf]; omega
          · have h4b : ¬ ((4 : Int) < (us.length : Int)) := by omega
            go_wp2_with (first | (go_at_call 57; refine (HN.out k1 h1 3 _ (HS.out.at (i := 5) rfl) (HC.out.mod (HS.out.sel [5] (by decide)) (fun _ h => h)) hk1 (by omega)).mono ?_; rintro e_ w1 ⟨q1, k3, h3, rfl, hk3, hr1, hr2, hs⟩; replace HS : Aside0 (Mod _ _ _ [_, _, _, _, _, _]) := sM1 HS 5 [0, 1, 2, 3, 4] rfl hs; clear hs; clear hr1 hr2; have hd_ : (q1 == 0) = true ∨ (q1 == 0) = false := (by cases (q1 == 0) <;> simp); rcases hd_ with hq1_ | hq1_) | (go_at_call 138; refine (HF.out k3 h3 _ (HS.out.at (i := 0) rfl) (HC.out.mod (HS.out.sel [5] (by decide)) (fun _ h => h)) hk3).mono ?_; rintro e_ w1 ⟨x1, y1, k4, h4, rfl, hk4, hs⟩; replace HS : Aside0 (Mod _ _ _ [_, _, _, _, _, _]) := sM1 HS 0 [1, 2, 3, 4, 5] rfl hs; clear hs; have hd_ : (x1 == 0) = true ∨ (x1 == 0) = false := (by cases (x1 == 0) <;> simp); rcases hd_ with hx1_ | hx1_) | ((with_reducible refine gate_dst (N := 9) rfl ?_); refine bxL 34 #[(.int .i64 0), (.int .i64 0)] HS ?_; clear HS; intro g_f w1 hg_f HS) | ((with_reducible refine gate_store (t := 34) (p := 9) rfl ?_); refine stL HS 0 0 #[.int .i64 x1, .int .i64 y1] rfl rfl rfl rfl rfl ?_; clear HS; intro w1 HS; have f1_ := HS.out.c 0 0 (v := .int .i64 x1) rfl rfl; have f2_ := HS.out.c 0 1 (v := .int .i64 y1) rfl rfl) | (go_at_call 108; refine (specZero _ _ _).mono ?_; rintro e_ w1 ⟨rfl, hb⟩; replace HS := sB HS hb; clear hb f1_ f2_))
            repeat (focus ((go_roundw; (case rel => first | exact ⟨i + 1, B, b, z, _, _, by omega, by go_num, by assumption, by omega, HZ, sX HS [1, 2, 3, 4, 5, 0]⟩ | exact ⟨i + 1, B, b, z, _, _, by omega, by go_num, by assumption, by omega, HZ, sX HS [2, 3, 4, 5, 6, 1]⟩); (case measure => simp [intOf]; omega)); done))
            replace HS := sD HS
            refine ps (.p 0 (.p 2 (.p 3 (.p 4 (.t 1 (.t 5 (.t 6 (.p 7 (.e 8 (.d 9 (.p 10 (.d 11 .done)))))))))))) (fun w' => w'.cell? ⟨g_q, 2, none⟩ = some (.slice B z.length b) ∧ w'.cell? (ad.add i) = some (.string u) ∧ w'.cell? ⟨g_f, 0, none⟩ = some (.int .i64 x1) ∧ w'.cell? ⟨g_f, 1, none⟩ = some (.int .i64 y1)) [9, 11] ⟨HS.out.c 3 2 (v := .slice B z.length b) rfl rfl, HS.out.sx 2 rfl HE.out, HS.out.c 0 0 (v := .int .i64 x1) rfl rfl, HS.out.c 0 1 (v := .int .i64 y1) rfl rfl⟩ (fun hHeld => ?_)
            repeat (first | ((with_reducible refine gate_p ?_); refine rp rfl rfl ?_) | ((with_reducible refine gate_t ?_); refine rt rfl rfl hHeld ?_))
            refine run_e rfl (fun K hK => ?_)
            refine stp_lit (KT) rfl 38 (by rfl) HS (xs := [((u, x1, y1) : Tm)]) (inner := [.string u, .int .i64 x1, .int .i64 y1]) (by first | (go_simp; done) | (go_simp; rfl)) (fun W base ok => Reps.snoc (Reps.none _ _) (KT_M (u, x1, y1) W base ok) rfl) (by simp) ?_
            clear HS
            intro A_t c_t w1 HS
            refine ge hK ⟨HS.out.c 4 2 (v := .slice B z.length b) rfl rfl, HS.out.sx 3 rfl HE.out, HS.out.c 1 0 (v := .int .i64 x1) rfl rfl, HS.out.c 1 1 (v := .int .i64 y1) rfl rfl⟩ (fun hHeld => ?_)
            clear hK K
            refine run_d rfl (fun K hK => ?_)
            refine stp_rows KT rfl (fun _ _ _ _ _ h => h) (by rfl) HS 5 rfl (.tmp 51) (.tmp 58) 24 (.agg #[(.string ⟨#[]⟩), (.int .i64 0), (.int .i64 0)]) 32 rfl Try.underlying24 infoTerm (by kernel_rfl) [((u, x1, y1) : Tm)] rfl rfl (HS.out.reads 0 rfl) (by show (z.length + 1) * 32 ≤ _; omega) ?_
            clear HS
            intro A_y' c_y' y' w1 Ny' HS
            simp only [List.set_cons_zero, List.set_cons_succ] at HS
            refine gd hK ?_
            clear hK K
            repeat (first | ((with_reducible refine gate_p ?_); refine rp rfl rfl ?_) | ((with_reducible refine gate_t ?_); refine rt rfl rfl hHeld ?_))
            refine run_d rfl (fun K hK => ?_)
            refine st1 HS 4 2 #[.int .i64 (d : Int), .int .i64 (n : Int), (.slice A_y' y'.length c_y')] rfl rfl rfl rfl rfl ?_
            clear HS
            intro w1 HS
            refine goD hK rfl ?_
            clear hK K
            refine run_done ?_
            clear hHeld
            go_wp2
            repeat (focus ((go_roundw; (case rel => first | exact ⟨i + 1, B, b, z, _, _, by omega, by go_num, by assumption, by omega, HZ, sX HS [1, 2, 3, 4, 5, 0]⟩ | exact ⟨i + 1, B, b, z, _, _, by omega, by go_num, by assumption, by omega, HZ, sX HS [2, 3, 4, 5, 6, 1]⟩); (case measure => simp [intOf]; omega)); done))
            have HZ2 := Aside0.mk (show ∀ t ∈ y', t.1.size ≤ 5 by rw [Ny'.out]; intro t ht; rcases List.mem_append.1 ht with ht | ht; exact HZ.out t ht; rw [List.mem_singleton.1 ht]; exact hu5)
            have hyl : y'.length ≤ j * 6561 + (i + 1) := by rw [Ny'.out, List.length_append, List.length_singleton]; omega
            go_roundw
            case rel => exact ⟨i + 1, A_y', c_y', y', k4, h4, by omega, by go_num, hk4, hyl, HZ2, sX HS [3, 4, 5, 6, 7, 2]⟩
            case measure => simp [intOf]; omega
        · obtain rfl : i = us.length := by omega
          go_wp2
          replace HS : Aside0 (Mod _ _ _ [_, _, _, _, _]) := sX HS [1, 2, 3, 4, 5]
          go_roundw
          case rel => exact ⟨j + 1, B, b, z, k1, h1, by omega, by go_num, hk1, by omega, HZ, sX HS [0, 1, 2, 3, 4]⟩
          case measure => simp [intOf]; omega
    · obtain rfl : j = n + 1 := by omega
      have f1_ := HS.out.c 3 1 (v := .int .i64 (n : Int)) rfl rfl
      have f2_ := HS.out.c 0 0 (v := .int .i64 (d : Int)) rfl rfl
      have f3_ := HS.out.c 0 1 (v := .int .i64 (n : Int)) rfl rfl
      have f4_ := HS.out.c 0 2 (v := .slice B z.length b) rfl rfl
      go_wp2_with (first | ((with_reducible refine gate_store (t := 26) (p := 4) rfl ?_); refine stL HS 2 0 #[.int .i64 (d : Int), .int .i64 (n : Int), .slice B z.length b] rfl rfl rfl rfl rfl ?_; clear HS f1_ f2_ f3_ f4_; intro w1 HS))
      refine bodyPost_ret (results_cell_row rfl _ _ g_r 26 #[.int .i64 (d : Int), .int .i64 (n : Int), .slice B z.length b] (0, 0) _ rfl (HS.out.at (i := 2) rfl) Try.underlying26 rfl (by kernel_rfl)) rfl ?_
      exact ⟨B, b, z, k1, h1, rfl, hk1, bnd_iff.2 ⟨by omega, fun t ht => by have := HZ.out t ht; omega⟩, by omega, HS.out.sel [4, 1] (by decide)⟩
end Go.Proofs.Ytibjkjhpfmmjoaa.H



namespace Go.Proofs.Ytibjkjhpfmmjoaa.H
open Go.RowKit Go.Proofs.YtibjkjhpfmmjoaaW.PrintWords Go.Proofs.YtibjkjhpfmmjoaaW.PrintLast Go.Proofs.YtibjkjhpfmmjoaaW.PrintMore Go.Proofs.Ytibjkjhpfmmjoaa.M
attribute [local go_sem] max2_int min2_int max_two min_two max_three min_three max_four min_four
set_option linter.unusedVariables false
set_option linter.unusedSimpArgs false
set_option maxRecDepth 100000
def okT (l : Ts) : Prop := bnd l = true ∧ l.length ≤ 100000
set_option maxHeartbeats 8000000 in
theorem specDraw (g : Nat) (A : Option Addr) (c m k : Nat) (h : Int) (w : World) (ho : (srcB g A m c k h).I w) (hcd : Code w g A m) (hk : k ≤ m) (hm : m ≤ 1048576) :
    Calls Try.prog 101 #[.pointer (some ⟨g, 0, none⟩)] w fun e w' => ∃ (d n : Nat) (B : Option Addr) (b : Nat) (l : Ts) (k' : Nat) (h' : Int), e = .returned (.agg #[.int .i64 (d : Int), .int .i64 (n : Int), .slice B l.length b]) ∧ 1 ≤ d ∧ d ≤ 3 ∧ 1 ≤ n ∧ n ≤ 5 ∧ k' ≤ m ∧ okT l ∧ Mod w w' (fun b => b = g) [srcB g A m c k' h', rowT B b l] := by
  have HS := Aside0.mk (Mod.own1 ho)
  have HC := Aside0.mk hcd
  have HL := Aside0.mk (fun k h W k1 k2 hk => specLike g A c m k h W k1 k2 hk hm)
  have HO := Aside0.mk (fun k h d n B0 m0 c0 W k1 k2 hk h1 h2 h3 => specDrawOf g A c m k h d n B0 m0 c0 W k1 k2 hk hm h1 h2 h3)
  clear ho hcd
  go_enter Try.func101, Try.ntmps101
  go_wp2_with (first | ((with_reducible refine gate_dst (N := 2) rfl ?_); refine bxL 26 #[(.int .i64 0), (.int .i64 0), (.slice none 0 0)] HS ?_; clear HS; intro g_r w1 hg_r HS) | (go_at_call 84; refine (HL.out k h _ (HS.out.at (i := 1) rfl) (HC.out.mod (HS.out.sel [0] (by decide)) (fun _ h => h)) hk).mono ?_; rintro e_ w1 ⟨d, n, B, b, k1, h1, rfl, hd0, hd1, hn0, hn1, hk1, hs⟩; replace HS : Aside0 (Mod _ _ _ [_, _]) := sM1 HS 1 [0] rfl hs; clear hs) | (go_at_call 83; refine (specFit d n B 0 b _ hd0 hd1 hn0 hn1).mono ?_; rintro e_ w1 ⟨n2, rfl, hn2, hn3, hn4, hb⟩; replace HS := sB HS hb; clear hb; clear hn4; obtain ⟨d2, rfl⟩ : ∃ d2 : Nat, d = d2 := ⟨Int.toNat d, by omega⟩; obtain ⟨n3, rfl⟩ : ∃ n3 : Nat, n2 = n3 := ⟨Int.toNat n2, by omega⟩) | (go_at_call 112; refine (HO.out k1 h1 d2 n3 B 0 b _ (HS.out.at (i := 0) rfl) (HC.out.mod (HS.out.sel [0] (by decide)) (fun _ h => h)) hk1 (by omega) (by omega) (by omega)).mono ?_; rintro e_ w1 ⟨B2, b2, l, k2, h2, rfl, hk2, hbl, hll, hs⟩; have n_ := Aside0.mk (Mod.step (A0 := [srcB g A m c k1 h1]) (R := [bx g_r 26 #[(.int .i64 0), (.int .i64 0), (.slice none 0 0)]]) (HS.out.sel [0, 1] (by decide)) hs (fun k_ hk_ => ⟨_, List.mem_cons_self, hk_⟩)); clear HS hs; have HS := n_; clear n_; simp only [List.cons_append, List.nil_append] at HS) | ((with_reducible refine gate_store (t := 26) (p := 2) rfl ?_); refine stL HS 2 0 #[.int .i64 (d2 : Int), .int .i64 (n3 : Int), .slice B2 l.length b2] rfl rfl rfl rfl rfl ?_; clear HS; intro w1 HS))
  refine bodyPost_ret (results_cell_row rfl _ _ g_r 26 #[.int .i64 (d2 : Int), .int .i64 (n3 : Int), .slice B2 l.length b2] (0, 0) _ rfl (HS.out.at (i := 2) rfl) Try.underlying26 rfl (by kernel_rfl)) rfl ?_
  exact ⟨d2, n3, B2, b2, l, k2, h2, rfl, by omega, by omega, by omega, by omega, hk2, ⟨hbl, hll⟩, HS.out.sel [0, 1] (by decide)⟩
end Go.Proofs.Ytibjkjhpfmmjoaa.H



namespace Go.Proofs.Ytibjkjhpfmmjoaa.H
open Go.RowKit Go.Proofs.YtibjkjhpfmmjoaaW.PrintWords Go.Proofs.YtibjkjhpfmmjoaaW.PrintLast Go.Proofs.YtibjkjhpfmmjoaaW.PrintMore Go.Proofs.Ytibjkjhpfmmjoaa.M
attribute [local go_sem] max2_int min2_int max_two min_two max_three min_three max_four min_four
set_option linter.unusedVariables false
set_option linter.unusedSimpArgs false
set_option maxRecDepth 100000
theorem Mod.own2 {w : World} {a b : As} (ha : a.I w) (hb : b.I w) (hd : ∀ k, a.S k → b.S k → False) : Mod w w (fun q => a.S q ∨ b.S q) [a, b] :=
  ⟨rfl, rfl, rfl, Nat.le_refl _, fun _ _ _ => rfl, fun x hx => by
    rcases List.mem_cons.1 hx with rfl | hx
    · exact ⟨ha, fun k hk => .inl (.inl hk)⟩
    · obtain rfl := List.mem_singleton.1 hx
      exact ⟨hb, fun k hk => .inl (.inr hk)⟩, List.pairwise_cons.2 ⟨fun x hx k h1 h2 => by obtain rfl := List.mem_singleton.1 hx; exact hd k h1 h2, List.pairwise_singleton _ _⟩⟩
def Apart (A : Option Addr) (m : Nat) (R : Nat → Prop) : Prop := ∀ ad q, A = some ad → 0 < m → R q → q ≠ ad.block
theorem Code.mod2 {w W : World} {g n : Nat} {A : Option Addr} {L : List As} {R : Nat → Prop} (h : Code w g A n) (HS : Mod w W (fun q => q = g ∨ R q) L) (hR : Apart A n R) : Code W g A n := fun i hi => by
  obtain ⟨ad, x, h1, h2, h3, h4⟩ := h i hi
  refine ⟨ad, x, h1, h2, ?_, h4⟩
  rw [cell_heap (w := w) (HS.block _ (World.block_lt_of_cell? w _ h3) (fun hk => by
    rw [add_blk ad i] at hk
    exact hk.elim h2 (fun hk => hR ad _ h1 (by omega) hk rfl)))]
  exact h3
theorem tr_fact {W : World} {a b : Addr} {v : Value} (h : W.cell? b = some v) (e : a = b) : W.cell? a = some v := by rw [e]; exact h
theorem okT_size {l : Ts} (h : okT l) {i : Nat} (hi : i < l.length) : (l.getD i zT).1.size ≤ 1048576 := by
  rw [getD_lt l zT i hi]; exact (bnd_iff.1 h.1).2 _ (List.getElem_mem hi)
theorem okT_set {l : Ts} (h : okT l) (i : Nat) {t : Tm} (ht : t.1.size ≤ 1048576) : okT (l.set i t) := by
  obtain ⟨h1, h2⟩ := h
  obtain ⟨h3, h4⟩ := bnd_iff.1 h1
  refine ⟨bnd_iff.2 ⟨by rw [List.length_set]; exact h3, fun x hx => ?_⟩, by rw [List.length_set]; exact h2⟩
  rcases List.mem_or_eq_of_mem_set hx with h5 | rfl
  · exact h4 x h5
  · exact ht
theorem over_val (l : Ts) (sp : List Value) (k : Nat) (x y : Int) (hk : k < l.length) : over (flat l ++ sp).toArray (k * 3 + 1) [.int .i64 x, .int .i64 y] = (flat (l.set k ((l.getD k zT).1, x, y)) ++ sp).toArray := by
  have hX : (flat (l.take k)).length = k * 3 := by rw [flat_length, List.length_take, Nat.min_eq_left (by omega)]
  have e1 : flat l = flat (l.take k) ++ (.string (l.getD k zT).1 :: .int .i64 (l.getD k zT).2.1 :: .int .i64 (l.getD k zT).2.2 :: flat (l.drop (k + 1))) := flat_split l k hk
  have e2 : flat (l.set k ((l.getD k zT).1, x, y)) = flat (l.take k) ++ (.string (l.getD k zT).1 :: .int .i64 x :: .int .i64 y :: flat (l.drop (k + 1))) := by
    rw [List.set_eq_take_append_cons_drop, if_pos hk, flat_append]
    rfl
  unfold over
  rw [e1, e2]
  generalize flat (l.take k) = X at hX
  generalize flat (l.drop (k + 1)) = Y
  simp only [List.toList_toArray]
  congr 1
  rw [← hX]
  simp [List.take_append, List.drop_append, List.take_of_length_le, List.drop_of_length_le]
  rw [List.drop_of_length_le (by omega), show X.length + 1 + 2 - X.length = 3 by omega]
  rfl
section
variable {w W W1 : World} {S : Nat → Prop} {L : List As} {P : Program} {ops : Array Oper} {o : Oper} {a : Act} {Q : Exit → Act → World → Prop} {Kc : Act → World → Prop}
theorem stp_put_val (hw : Region.wanted o (yielded ops a.tmps) = true) (hN : o.dst = none) {ty : TypeId} {x y : Operand} (ho : o.op = .store ty x y) (HS : Aside0 (Mod w W S L)) (i : Nat) {g e : Nat} {l : Ts} {sp : List Value} (hi : L[i]? = some (tr g e l sp)) (k : Nat) (hk : k < l.length) (p q : Int)
    (hx : a.eval x = .pointer (some ⟨g, k * 3 + 1, none⟩)) (hy : a.eval y = .agg #[.int .i64 p, .int .i64 q]) (hsz : (P.info? ty).map (·.size) = some 2) (h : ∀ w1, Aside0 (Mod w w1 S (L.set i (tr g e (l.set k ((l.getD k zT).1, p, q)) sp))) → Kc a w1) : Stp P ops Q o a W Kc := by
  have hl := flat_length l
  refine stp_set hw hN ho HS i (k * 3 + 1) (cs' := (flat (l.set k ((l.getD k zT).1, p, q)) ++ sp).toArray) hi hx hy hsz ?_ (over_val l sp k p q hk) h
  rw [Bool.and_eq_true, decide_eq_true_eq]
  refine ⟨?_, rfl⟩
  show k * 3 + 1 + 2 ≤ (flat l ++ sp).toArray.size
  rw [List.size_toArray, List.length_append]; omega
end
set_option maxHeartbeats 8000000 in
theorem specBad (g : Nat) (A : Option Addr) (c m k : Nat) (h : Int) (d n : Nat) (B : Option Addr) (b : Nat) (l : Ts) (w : World) (ho : (srcB g A m c k h).I w) (hr : (rowT B b l).I w) (hne : ∀ q, (rowT B b l).S q → q ≠ g) (hap : Apart A m (rowT B b l).S) (hcd : Code w g A m) (hk : k ≤ m) (hm : m ≤ 1048576) (hd : d ≤ 5) (hn : n ≤ 6) (hl : okT l) :
    Calls Try.prog 100 #[.pointer (some ⟨g, 0, none⟩), .agg #[.int .i64 (d : Int), .int .i64 (n : Int), .slice B l.length b]] w fun e w' => ∃ (d' n' : Int) (B' : Option Addr) (b' : Nat) (l' : Ts) (k' : Nat) (h' : Int), e = .returned (.agg #[.int .i64 d', .int .i64 n', .slice B' l'.length b']) ∧ -1 ≤ d' ∧ d' ≤ 5 ∧ -1 ≤ n' ∧ n' ≤ 6 ∧ k' ≤ m ∧ okT l' ∧ Mod w w' (fun q => q = g ∨ (rowT B b l).S q) [srcB g A m c k' h', rowT B' b' l'] := by
  have HS := Aside0.mk (show Mod w w (fun q => q = g ∨ (rowT B b l).S q) [srcB g A m c k h, rowT B b l] from Mod.own2 ho hr (fun q h1 h2 => hne q h2 h1))
  have HE := Aside0.mk hap
  have HC := Aside0.mk hcd
  have hll : l.length ≤ 100000 := hl.2
  have HN := Aside0.mk (fun k h n W k1 k2 hk h1 => specNext g A c m k h n W k1 k2 hk hm h1)
  have HP := Aside0.mk (fun k h B b (x y z t : Int) W k1 k2 hk k3 k4 => specPick g A c m k h B b [x, y, z, t] W k1 k2 hk hm k3 k4 (by simp) (by simp))
  have HP2 := Aside0.mk (fun k h B b W k1 k2 hk k3 k4 => specPick g A c m k h B b [0, 2] W k1 k2 hk hm k3 k4 (by simp) (by simp))
  have HP3 := Aside0.mk (fun k h B b W k1 k2 hk k3 k4 => specPick g A c m k h B b [1, 4, 0] W k1 k2 hk hm k3 k4 (by simp) (by simp))
  clear ho hr hcd hne hap
  go_enter Try.func100, Try.ntmps100
  go_wp2_with (first | ((with_reducible refine gate_dst (N := 3) rfl ?_); refine bxL 26 #[.int .i64 (d : Int), .int .i64 (n : Int), .slice B l.length b] HS ?_; clear HS; intro g_x w1 hg_x HS) | ((with_reducible refine gate_dst (N := 4) rfl ?_); refine bxL 26 #[(.int .i64 0), (.int .i64 0), (.slice none 0 0)] HS ?_; clear HS; intro g_r w1 hg_r HS) | (go_at_call 57; refine (HN.out k h 50 _ (HS.out.at (i := 2) rfl) (HC.out.mod2 HS.out HE.out) hk (by omega)).mono ?_; rintro e_ w1 ⟨u, k1, h1_, rfl, hk1, hr1, hr2, hs⟩; replace HS : Aside0 (Mod _ _ _ [_, _, _, _]) := sM1 HS 2 [0, 1, 3] rfl hs; clear hs; obtain ⟨hr3, hr4⟩ := hr1 (by omega); clear hr1 hr2; obtain ⟨u, rfl⟩ : ∃ i : Nat, u = i := ⟨Int.toNat u, by omega⟩; clear hr3 hr4; refine Hid.out ?_))
  refine Lib.hid ?_
  by_cases h0 : u = 0
  · have hu0 : ((u : Int) == 0) = true := by rw [h0]; rfl
    clear h0
    have f1_ := HS.out.c 2 0 (v := .int .i64 (d : Int)) rfl rfl
    go_wp2_with (first | ((with_reducible refine gate_dst (N := 18) rfl ?_); refine wpList_stp (fun K hK => ?_); refine stp_lit (Kd.int .i64) rfl 2 (by rfl) HS (xs := [0, 4, (d : Int) - 1, -1]) (inner := [.int .i64 0, .int .i64 4, .int .i64 ((d : Int) - 1), .int .i64 (-1)]) (by first | (go_simp; done) | (go_simp; rfl)) (fun W base ok => reps_ints W base ok _) (by simp) ?_; clear HS f1_; intro A_p c_p w1 HS; refine hK _ _ ?_; clear hK K) | (go_at_call 74; refine (HP.out k1 h1_ A_p c_p 0 4 ((d : Int) - 1) (-1) _ (HS.out.at (i := 1) rfl) (HC.out.mod2 HS.out HE.out) hk1 (HS.out.at (i := 0) rfl) (fun q h1 h2 => HS.out.disj (i := 0) (j := 1) rfl rfl (by decide) q h1 h2)).mono ?_; rintro e_ w1 ⟨d2, k2, h2, rfl, hk2, hq, hs⟩; replace HS : Aside0 (Mod _ _ _ [_, _, _, _, _]) := sM1 HS 1 [0, 2, 3, 4] rfl hs; clear hs; obtain ⟨hd0, hd1⟩ : -1 ≤ d2 ∧ d2 ≤ 5 := (by simp only [List.mem_cons, List.not_mem_nil, or_false] at hq; omega); clear hq) | ((with_reducible refine gate_store (t := 2) (p := 20) rfl ?_); refine stL HS 3 0 #[(.int .i64 d2), .int .i64 (n : Int), .slice B l.length b] rfl rfl rfl rfl rfl ?_; clear HS; intro w1 HS; have f1_ := HS.out.c 3 0 (v := (.int .i64 d2)) rfl rfl; have f2_ := HS.out.c 3 1 (v := .int .i64 (n : Int)) rfl rfl; have f3_ := HS.out.c 3 2 (v := .slice B l.length b) rfl rfl) | ((with_reducible refine gate_store (t := 26) (p := 4) rfl ?_); refine stL HS 2 0 #[(.int .i64 d2), .int .i64 (n : Int), .slice B l.length b] rfl rfl rfl rfl rfl ?_; clear HS f1_ f2_ f3_; intro w1 HS))
    refine bodyPost_ret (results_cell_row rfl _ _ g_r 26 #[(.int .i64 d2), .int .i64 (n : Int), .slice B l.length b] (0, 0) _ rfl (HS.out.at (i := 2) rfl) Try.underlying26 rfl (by kernel_rfl)) rfl ?_
    exact ⟨d2, n, B, b, l, k2, h2, rfl, hd0, hd1, by omega, by omega, hk2, hl, HS.out.sel [0, 4] (by decide)⟩
  · have hu0 : ((u : Int) == 0) = false := by rw [beq_eq_false_iff_ne]; omega
    by_cases h1 : u = 1
    · have hu1 : ((u : Int) == 1) = true := by rw [h1]; rfl
      clear h0 h1
      have f1_ := HS.out.c 2 1 (v := .int .i64 (n : Int)) rfl rfl
      go_wp2_with (first | ((with_reducible refine gate_dst (N := 27) rfl ?_); refine wpList_stp (fun K hK => ?_); refine stp_lit (Kd.int .i64) rfl 2 (by rfl) HS (xs := [0, 6, (n : Int) - 1, 5]) (inner := [.int .i64 0, .int .i64 6, .int .i64 ((n : Int) - 1), .int .i64 5]) (by first | (go_simp; done) | (go_simp; rfl)) (fun W base ok => reps_ints W base ok _) (by simp) ?_; clear HS f1_; intro A_p c_p w1 HS; refine hK _ _ ?_; clear hK K) | (go_at_call 74; refine (HP.out k1 h1_ A_p c_p 0 6 ((n : Int) - 1) 5 _ (HS.out.at (i := 1) rfl) (HC.out.mod2 HS.out HE.out) hk1 (HS.out.at (i := 0) rfl) (fun q h1 h2 => HS.out.disj (i := 0) (j := 1) rfl rfl (by decide) q h1 h2)).mono ?_; rintro e_ w1 ⟨d2, k2, h2, rfl, hk2, hq, hs⟩; replace HS : Aside0 (Mod _ _ _ [_, _, _, _, _]) := sM1 HS 1 [0, 2, 3, 4] rfl hs; clear hs; obtain ⟨hd0, hd1⟩ : -1 ≤ d2 ∧ d2 ≤ 6 := (by simp only [List.mem_cons, List.not_mem_nil, or_false] at hq; omega); clear hq) | ((with_reducible refine gate_store (t := 2) (p := 29) rfl ?_); refine stL HS 3 1 #[.int .i64 (d : Int), (.int .i64 d2), .slice B l.length b] rfl rfl rfl rfl rfl ?_; clear HS; intro w1 HS; have f1_ := HS.out.c 3 0 (v := .int .i64 (d : Int)) rfl rfl; have f2_ := HS.out.c 3 1 (v := (.int .i64 d2)) rfl rfl; have f3_ := HS.out.c 3 2 (v := .slice B l.length b) rfl rfl) | ((with_reducible refine gate_store (t := 26) (p := 4) rfl ?_); refine stL HS 2 0 #[.int .i64 (d : Int), (.int .i64 d2), .slice B l.length b] rfl rfl rfl rfl rfl ?_; clear HS f1_ f2_ f3_; intro w1 HS))
      refine bodyPost_ret (results_cell_row rfl _ _ g_r 26 #[.int .i64 (d : Int), (.int .i64 d2), .slice B l.length b] (0, 0) _ rfl (HS.out.at (i := 2) rfl) Try.underlying26 rfl (by kernel_rfl)) rfl ?_
      exact ⟨d, d2, B, b, l, k2, h2, rfl, by omega, by omega, hd0, hd1, hk2, hl, HS.out.sel [0, 4] (by decide)⟩
    · have hu1 : ((u : Int) == 1) = false := by rw [beq_eq_false_iff_ne]; omega
      by_cases h2 : u = 2
      · have hu2 : ((u : Int) == 2) = true := by rw [h2]; rfl
        clear h0 h1 h2
        by_cases hl0 : 0 < l.length
        · skip
          have f1_ := HS.out.c 2 2 (v := .slice B l.length b) rfl rfl
          go_wp2_with (first | ((with_reducible refine gate_dst (N := 37) rfl ?_); refine wpList_stp (fun K hK => ?_); refine stp_lit (KT) rfl 38 (by rfl) HS (xs := ([] : Ts)) (inner := []) (by first | (go_simp; done) | (go_simp; rfl)) (fun W base ok => Reps.none _ _) (by simp) ?_; clear HS f1_; intro A_z c_z w1 HS; refine hK _ _ ?_; clear hK K; have f1_ := HS.out.c 3 2 (v := .slice B l.length b) rfl rfl) | ((with_reducible refine gate_builtin (b := .append) (xs := #[.tmp 37, .tmp 39]) rfl ?_); at_builtin; refine wpList_stp (fun K hK => ?_); refine stp_rows KT rfl (fun _ _ _ _ _ h => h) (by rfl) HS 0 (xs := []) rfl (.tmp 37) (.tmp 39) 24 (.agg #[(.string ⟨#[]⟩), (.int .i64 0), (.int .i64 0)]) 32 rfl Try.underlying24 infoTerm (by kernel_rfl) l rfl rfl (HS.out.reads 4 rfl) (by show (0 + l.length) * 32 ≤ _; omega) ?_; clear HS f1_; intro A_y' c_y' y' w1 Ny' HS; simp only [List.set_cons_zero, List.set_cons_succ] at HS; refine hK _ _ ?_; clear hK K))
          have ey : l = y' := by have h_ := Ny'.out; rw [List.nil_append] at h_; exact h_.symm
          subst ey
          obtain ⟨g_o, sp, rfl, hI, hlen, hcm⟩ := R_tr (HS.out.rowAt 0 rfl) rfl (by omega)
          have n_ := Aside0.mk (HS.out.asBlock (i := 0) rfl hI)
          clear HS hI Ny'
          have HS := n_
          clear n_
          simp only [List.set_cons_zero, List.set_cons_succ] at HS
          have HL := Aside0.mk hlen
          clear hlen
          have tk1_ : True := trivial
          go_wp2_with (first | (go_at_call 57; refine (HN.out k1 h1_ (l.length : Int) _ (HS.out.at (i := 1) rfl) (HC.out.mod2 HS.out HE.out) hk1 (by omega)).mono ?_; rintro e_ w1 ⟨r2, k2, h2, rfl, hk2, hr1, hr2, hs⟩; replace HS : Aside0 (Mod _ _ _ [_, _, _, _, _]) := sM1 HS 1 [0, 2, 3, 4] rfl hs; clear hs; obtain ⟨hr3, hr4⟩ := hr1 (by omega); clear hr1 hr2; obtain ⟨i, rfl⟩ : ∃ i : Nat, r2 = i := ⟨Int.toNat r2, by omega⟩; have hil : i < l.length := (by omega); clear hr3 hr4) | ((with_reducible refine gate_dst (N := 46) rfl ?_); refine wpList_stp (fun K hK => ?_); refine stp_lit (Kd.int .i64) rfl 2 (by rfl) HS (xs := [0, 2]) (inner := [.int .i64 0, .int .i64 2]) (by first | (go_simp; done) | (go_simp; rfl)) (fun W base ok => reps_ints W base ok _) (by simp) ?_; clear HS; intro A_p c_p w1 HS; refine hK _ _ ?_; clear hK K) | (go_at_call 74; clear tk1_; refine (HP2.out k2 h2 A_p c_p _ (HS.out.at (i := 1) rfl) (HC.out.mod2 HS.out HE.out) hk2 (HS.out.at (i := 0) rfl) (fun q h1 h2 => HS.out.disj (i := 0) (j := 1) rfl rfl (by decide) q h1 h2)).mono ?_; rintro e_ w1 ⟨a1, k3, h3, rfl, hk3, hq, hs⟩; replace HS : Aside0 (Mod _ _ _ [_, _, _, _, _, _]) := sM1 HS 1 [0, 2, 3, 4, 5] rfl hs; clear hs; clear hq) | ((with_reducible refine gate_dst (N := 49) rfl ?_); refine wpList_stp (fun K hK => ?_); refine stp_lit (Kd.int .i64) rfl 2 (by rfl) HS (xs := [1, 4, 0]) (inner := [.int .i64 1, .int .i64 4, .int .i64 0]) (by first | (go_simp; done) | (go_simp; rfl)) (fun W base ok => reps_ints W base ok _) (by simp) ?_; clear HS; intro A_q c_q w1 HS; refine hK _ _ ?_; clear hK K) | (go_at_call 74; refine (HP3.out k3 h3 A_q c_q _ (HS.out.at (i := 1) rfl) (HC.out.mod2 HS.out HE.out) hk3 (HS.out.at (i := 0) rfl) (fun q h1 h2 => HS.out.disj (i := 0) (j := 1) rfl rfl (by decide) q h1 h2)).mono ?_; rintro e_ w1 ⟨a2, k4, h4, rfl, hk4, hq, hs⟩; replace HS : Aside0 (Mod _ _ _ [_, _, _, _, _, _, _]) := sM1 HS 1 [0, 2, 3, 4, 5, 6] rfl hs; clear hs; clear hq) | ((with_reducible refine gate_store (t := 34) (p := 53) rfl ?_); refine wpList_stp (fun K hK => ?_); refine stp_put_val (by rfl) rfl rfl HS 3 rfl i hil a1 a2 rfl rfl (by kernel_rfl) ?_; clear HS; intro w1 HS; simp only [List.set_cons_zero, List.set_cons_succ] at HS; refine hK _ _ ?_; clear hK K) | ((with_reducible refine gate_store (t := 24) (p := 55) rfl ?_); refine stL HS 5 2 #[.int .i64 (d : Int), .int .i64 (n : Int), (.slice (some ⟨g_o, 0, none⟩) l.length c_y')] rfl rfl rfl rfl rfl ?_; clear HS; intro w1 HS; have f1_ := HS.out.c 5 0 (v := .int .i64 (d : Int)) rfl rfl; have f2_ := HS.out.c 5 1 (v := .int .i64 (n : Int)) rfl rfl; have f3_ := HS.out.c 5 2 (v := (.slice (some ⟨g_o, 0, none⟩) l.length c_y')) rfl rfl) | ((with_reducible refine gate_store (t := 26) (p := 4) rfl ?_); refine stL HS 4 0 #[.int .i64 (d : Int), .int .i64 (n : Int), (.slice (some ⟨g_o, 0, none⟩) l.length c_y')] rfl rfl rfl rfl rfl ?_; clear HS f1_ f2_ f3_; intro w1 HS))
          refine bodyPost_ret (results_cell_row rfl _ _ g_r 26 #[.int .i64 (d : Int), .int .i64 (n : Int), (.slice (some ⟨g_o, 0, none⟩) l.length c_y')] (0, 0) _ rfl (HS.out.at (i := 4) rfl) Try.underlying26 rfl (by kernel_rfl)) rfl ?_
          have hR := HS.out.asRow (i := 3) rfl (cap := c_y') (by have := HL.out; rw [List.length_append, flat_length] at this ⊢; rw [List.length_set]; omega) hcm
          refine ⟨d, n, some ⟨g_o, 0, none⟩, c_y', l.set i ((l.getD i zT).1, a1, a2), k4, h4, by rw [List.length_set], by omega, by omega, by omega, by omega, hk4, okT_set hl i (okT_size hl hil), ?_⟩
          exact hR.sel [0, 3] (by decide)
        · skip
          have f1_ := HS.out.c 2 2 (v := .slice B l.length b) rfl rfl
          have f2_ := HS.out.c 2 0 (v := .int .i64 (d : Int)) rfl rfl
          have f3_ := HS.out.c 2 1 (v := .int .i64 (n : Int)) rfl rfl
          go_wp2_with (first | ((with_reducible refine gate_store (t := 26) (p := 4) rfl ?_); refine stL HS 1 0 #[.int .i64 (d : Int), .int .i64 (n : Int), .slice B l.length b] rfl rfl rfl rfl rfl ?_; clear HS f1_ f2_ f3_; intro w1 HS))
          refine bodyPost_ret (results_cell_row rfl _ _ g_r 26 #[.int .i64 (d : Int), .int .i64 (n : Int), .slice B l.length b] (0, 0) _ rfl (HS.out.at (i := 1) rfl) Try.underlying26 rfl (by kernel_rfl)) rfl ?_
          exact ⟨d, n, B, b, l, k1, h1_, rfl, by omega, by omega, by omega, by omega, hk1, hl, HS.out.sel [0, 3] (by decide)⟩
      · have hu2 : ((u : Int) == 2) = false := by rw [beq_eq_false_iff_ne]; omega
        by_cases h3 : u = 3
        · have hu3 : ((u : Int) == 3) = true := by rw [h3]; rfl
          clear h0 h1 h2 h3
          by_cases hl0 : 1 < l.length
          · skip
            have f1_ := HS.out.c 2 2 (v := .slice B l.length b) rfl rfl
            go_wp2_with (first | ((with_reducible refine gate_dst (N := 63) rfl ?_); refine wpList_stp (fun K hK => ?_); refine stp_lit (KT) rfl 38 (by rfl) HS (xs := ([] : Ts)) (inner := []) (by first | (go_simp; done) | (go_simp; rfl)) (fun W base ok => Reps.none _ _) (by simp) ?_; clear HS f1_; intro A_z c_z w1 HS; refine hK _ _ ?_; clear hK K; have f1_ := HS.out.c 3 2 (v := .slice B l.length b) rfl rfl) | ((with_reducible refine gate_builtin (b := .append) (xs := #[.tmp 63, .tmp 65]) rfl ?_); at_builtin; refine wpList_stp (fun K hK => ?_); refine stp_rows KT rfl (fun _ _ _ _ _ h => h) (by rfl) HS 0 (xs := []) rfl (.tmp 63) (.tmp 65) 24 (.agg #[(.string ⟨#[]⟩), (.int .i64 0), (.int .i64 0)]) 32 rfl Try.underlying24 infoTerm (by kernel_rfl) l rfl rfl (HS.out.reads 4 rfl) (by show (0 + l.length) * 32 ≤ _; omega) ?_; clear HS f1_; intro A_y' c_y' y' w1 Ny' HS; simp only [List.set_cons_zero, List.set_cons_succ] at HS; refine hK _ _ ?_; clear hK K))
            have ey : l = y' := by have h_ := Ny'.out; rw [List.nil_append] at h_; exact h_.symm
            subst ey
            obtain ⟨g_o, sp, rfl, hI, hlen, hcm⟩ := R_tr (HS.out.rowAt 0 rfl) rfl (by omega)
            have n_ := Aside0.mk (HS.out.asBlock (i := 0) rfl hI)
            clear HS hI Ny'
            have HS := n_
            clear n_
            simp only [List.set_cons_zero, List.set_cons_succ] at HS
            have HL := Aside0.mk hlen
            clear hlen
            obtain ⟨q, hq⟩ : ∃ q, l.length = q + 1 := ⟨l.length - 1, by omega⟩
            have hq1 : (l.length : Int) - 1 = (q : Int) := by omega
            have hql : q < l.length := by omega
            have hl00 : 0 < l.length := by omega
            have hl01 : l ≠ [] := by intro e_; rw [e_] at hl00; cases hl00
            have hl02 : (0 : Int) < (l.length : Int) := by omega
            have hl03 : ¬ ((l.length : Int) ≤ 0) := by omega
            have hl04 : ¬ (l = []) := hl01
            clear hq
            obtain ⟨t0, ht0⟩ : ∃ t, l.getD 0 zT = t := ⟨_, rfl⟩
            obtain ⟨tq, htq⟩ : ∃ t, l.getD q zT = t := ⟨_, rfl⟩
            have HT0 := Aside0.mk ht0
            have HTQ := Aside0.mk htq
            have hs0 : t0.1.size ≤ 1048576 := by rw [← ht0]; exact okT_size hl hl00
            have hsq : tq.1.size ≤ 1048576 := by rw [← htq]; exact okT_size hl hql
            clear ht0 htq
            have f1_ := tr_fact (tr_cell (HS.out.at (i := 0) rfl) 0 0 hl00 (by decide) (by rw [HT0.out]; rfl)) (a := ⟨g_o, 0, none⟩) rfl
            have f2_ := tr_fact (tr_cell (HS.out.at (i := 0) rfl) 0 1 hl00 (by decide) (by rw [HT0.out]; rfl)) (a := ⟨g_o, 1, none⟩) rfl
            have f3_ := tr_fact (tr_cell (HS.out.at (i := 0) rfl) 0 2 hl00 (by decide) (by rw [HT0.out]; rfl)) (a := ⟨g_o, 2, none⟩) rfl
            go_wp2_with (first | ((with_reducible refine gate_dst (N := 9) rfl ?_); refine bxL 38 #[(.string ⟨#[]⟩), (.int .i64 0), (.int .i64 0)] HS ?_; clear HS f1_ f2_ f3_; intro g_own w1 hg_own HS) | ((with_reducible refine gate_store (t := 38) (p := 9) rfl ?_); refine stL HS 0 0 #[.string t0.1, .int .i64 t0.2.1, .int .i64 t0.2.2] rfl rfl rfl rfl rfl ?_; clear HS; intro w1 HS; have f1_ := tr_fact (tr_cell (HS.out.at (i := 1) rfl) q 0 hql (by decide) (by rw [HTQ.out]; rfl)) (a := ⟨g_o, q * 3, none⟩) rfl; have f2_ := tr_cell (HS.out.at (i := 1) rfl) q 1 hql (by decide) (by rw [HTQ.out]; rfl); have f3_ := tr_cell (HS.out.at (i := 1) rfl) q 2 hql (by decide) (by rw [HTQ.out]; rfl)) | ((with_reducible refine gate_store (t := 38) (p := 76) rfl ?_); refine wpList_stp (fun K hK => ?_); refine stp_put_term (by rfl) rfl rfl HS 1 rfl 0 hl00 tq rfl rfl (by kernel_rfl) ?_; clear HS f1_ f2_ f3_; intro w1 HS; simp only [List.set_cons_zero, List.set_cons_succ] at HS; refine hK _ _ ?_; clear hK K; have f1_ := HS.out.c 0 0 (v := .string t0.1) rfl rfl; have f2_ := HS.out.c 0 1 (v := .int .i64 t0.2.1) rfl rfl; have f3_ := HS.out.c 0 2 (v := .int .i64 t0.2.2) rfl rfl) | ((with_reducible refine gate_store (t := 38) (p := 81) rfl ?_); refine wpList_stp (fun K hK => ?_); refine stp_put_term (by rfl) rfl rfl HS 1 rfl q (by rw [List.length_set]; exact hql) t0 rfl rfl (by kernel_rfl) ?_; clear HS f1_ f2_ f3_; intro w1 HS; simp only [List.set_cons_zero, List.set_cons_succ] at HS; refine hK _ _ ?_; clear hK K) | ((with_reducible refine gate_store (t := 24) (p := 83) rfl ?_); refine stL HS 4 2 #[.int .i64 (d : Int), .int .i64 (n : Int), (.slice (some ⟨g_o, 0, none⟩) l.length c_y')] rfl rfl rfl rfl rfl ?_; clear HS; intro w1 HS; have f1_ := HS.out.c 4 0 (v := .int .i64 (d : Int)) rfl rfl; have f2_ := HS.out.c 4 1 (v := .int .i64 (n : Int)) rfl rfl; have f3_ := HS.out.c 4 2 (v := (.slice (some ⟨g_o, 0, none⟩) l.length c_y')) rfl rfl) | ((with_reducible refine gate_store (t := 26) (p := 4) rfl ?_); refine stL HS 3 0 #[.int .i64 (d : Int), .int .i64 (n : Int), (.slice (some ⟨g_o, 0, none⟩) l.length c_y')] rfl rfl rfl rfl rfl ?_; clear HS f1_ f2_ f3_; intro w1 HS))
            refine bodyPost_ret (results_cell_row rfl _ _ g_r 26 #[.int .i64 (d : Int), .int .i64 (n : Int), (.slice (some ⟨g_o, 0, none⟩) l.length c_y')] (0, 0) _ rfl (HS.out.at (i := 3) rfl) Try.underlying26 rfl (by kernel_rfl)) rfl ?_
            have hR := HS.out.asRow (i := 1) rfl (cap := c_y') (by have := HL.out; rw [List.length_append, flat_length] at this ⊢; rw [List.length_set, List.length_set]; omega) hcm
            refine ⟨d, n, some ⟨g_o, 0, none⟩, c_y', (l.set 0 tq).set q t0, k1, h1_, by rw [List.length_set, List.length_set], by omega, by omega, by omega, by omega, hk1, okT_set (okT_set hl 0 hsq) q hs0, ?_⟩
            exact hR.sel [2, 1] (by decide)
          · skip
            have f1_ := HS.out.c 2 2 (v := .slice B l.length b) rfl rfl
            have f2_ := HS.out.c 2 0 (v := .int .i64 (d : Int)) rfl rfl
            have f3_ := HS.out.c 2 1 (v := .int .i64 (n : Int)) rfl rfl
            go_wp2_with (first | ((with_reducible refine gate_store (t := 26) (p := 4) rfl ?_); refine stL HS 1 0 #[.int .i64 (d : Int), .int .i64 (n : Int), .slice B l.length b] rfl rfl rfl rfl rfl ?_; clear HS f1_ f2_ f3_; intro w1 HS))
            refine bodyPost_ret (results_cell_row rfl _ _ g_r 26 #[.int .i64 (d : Int), .int .i64 (n : Int), .slice B l.length b] (0, 0) _ rfl (HS.out.at (i := 1) rfl) Try.underlying26 rfl (by kernel_rfl)) rfl ?_
            exact ⟨d, n, B, b, l, k1, h1_, rfl, by omega, by omega, by omega, by omega, hk1, hl, HS.out.sel [0, 3] (by decide)⟩
        · have hu3 : ((u : Int) == 3) = false := by rw [beq_eq_false_iff_ne]; omega
          clear h0 h1 h2 h3
          have f1_ := HS.out.c 2 0 (v := .int .i64 (d : Int)) rfl rfl
          have f2_ := HS.out.c 2 1 (v := .int .i64 (n : Int)) rfl rfl
          have f3_ := HS.out.c 2 2 (v := .slice B l.length b) rfl rfl
          go_wp2_with (first | ((with_reducible refine gate_store (t := 26) (p := 4) rfl ?_); refine stL HS 1 0 #[.int .i64 (d : Int), .int .i64 (n : Int), .slice B l.length b] rfl rfl rfl rfl rfl ?_; clear HS f1_ f2_ f3_; intro w1 HS))
          refine bodyPost_ret (results_cell_row rfl _ _ g_r 26 #[.int .i64 (d : Int), .int .i64 (n : Int), .slice B l.length b] (0, 0) _ rfl (HS.out.at (i := 1) rfl) Try.underlying26 rfl (by kernel_rfl)) rfl ?_
          exact ⟨d, n, B, b, l, k1, h1_, rfl, by omega, by omega, by omega, by omega, hk1, hl, HS.out.sel [0, 3] (by decide)⟩
end Go.Proofs.Ytibjkjhpfmmjoaa.H



namespace Go.Proofs.Ytibjkjhpfmmjoaa.H
open Go.RowKit Go.Proofs.YtibjkjhpfmmjoaaW.PrintWords Go.Proofs.YtibjkjhpfmmjoaaW.PrintLast Go.Proofs.YtibjkjhpfmmjoaaW.PrintMore Go.Proofs.Ytibjkjhpfmmjoaa.M
attribute [local go_sem] max2_int min2_int max_two min_two max_three min_three max_four min_four
set_option linter.unusedVariables false
set_option linter.unusedSimpArgs false
set_option maxRecDepth 100000
theorem Mod.disj2 {w W : World} {S : Nat → Prop} {L : List As} (h : Mod w W S L) {i j : Nat} {a b : As} (hi : L[i]? = some a) (hj : L[j]? = some b) (hij : i ≠ j) : ∀ k, a.S k → b.S k → False := by
  rcases Nat.lt_or_gt_of_ne hij with h1 | h1
  · exact h.disj hi hj h1
  · exact fun k x y => h.disj hj hi h1 k y x
theorem Code.apart {w W : World} {g n : Nat} {A : Option Addr} {L : List As} {S : Nat → Prop} (h : Code w g A n) (HS : Mod w W S L) (hS : ∀ k, S k → k = g) (i : Nat) {a : As} (hi : L[i]? = some a) : Apart A n a.S := fun ad q hA hn hq => by
  obtain ⟨ad', x, h1, h2, h3, _⟩ := h 0 hn
  rw [hA] at h1
  injection h1 with h1
  subst h1
  have h4 := World.block_lt_of_cell? w _ h3
  rw [add_blk] at h4
  rintro rfl
  rcases (HS.all a (List.mem_of_getElem? hi)).2 _ hq with h5 | h5
  · exact h2 (hS _ h5)
  · omega
set_option maxHeartbeats 8000000 in
theorem specSpoil (g : Nat) (A : Option Addr) (c m k : Nat) (h : Int) (w : World) (ho : (srcB g A m c k h).I w) (hcd : Code w g A m) (hk : k ≤ m) (hm : m ≤ 1048576) :
    Calls Try.prog 50 #[.pointer (some ⟨g, 0, none⟩)] w fun e w' => ∃ (d' n' : Int) (B' : Option Addr) (b' : Nat) (l' : Ts) (k' : Nat) (h' : Int), e = .returned (.agg #[.int .i64 d', .int .i64 n', .slice B' l'.length b']) ∧ -1 ≤ d' ∧ d' ≤ 5 ∧ -1 ≤ n' ∧ n' ≤ 6 ∧ k' ≤ m ∧ okT l' ∧ Mod w w' (fun b => b = g) [srcB g A m c k' h', rowT B' b' l'] := by
  have HS := Aside0.mk (Mod.own1 ho)
  have HC := Aside0.mk hcd
  have HB := Aside0.mk (fun k h d n B b l W k1 k2 k3 k4 k5 hk h1 h2 h3 => specBad g A c m k h d n B b l W k1 k2 k3 k4 k5 hk hm h1 h2 h3)
  clear ho hcd
  go_enter Try.func50, Try.ntmps50
  go_wp2_with (first | ((with_reducible refine gate_dst (N := 2) rfl ?_); refine bxL 26 #[(.int .i64 0), (.int .i64 0), (.slice none 0 0)] HS ?_; clear HS; intro g_r w1 hg_r HS) | (go_at_call 101; refine (specDraw g A c m k h _ (HS.out.at (i := 1) rfl) (HC.out.mod (HS.out.sel [0] (by decide)) (fun _ h => h)) hk hm).mono ?_; rintro e_ w1 ⟨d, n, B, b, l, k1, h1, rfl, hd0, hd1, hn0, hn1, hk1, hok, hs⟩; have n_ := Aside0.mk (Mod.step (A0 := [bx g 98 #[.slice A m c, .int .i64 (k : Int), .int .u64 h]]) (R := [bx g_r 26 #[(.int .i64 0), (.int .i64 0), (.slice none 0 0)]]) (HS.out.sel [1, 0] (by decide)) hs (fun k_ hk_ => ⟨_, List.mem_cons_self, hk_⟩)); clear HS hs; have HS := n_; clear n_; simp only [List.cons_append, List.nil_append] at HS) | (go_at_call 100; refine (HB.out k1 h1 d n B b l _ (HS.out.at (i := 0) rfl) (HS.out.at (i := 1) rfl) (fun q h1 h2 => HS.out.disj2 (i := 1) (j := 0) rfl rfl (by decide) q h1 h2) (HC.out.apart HS.out (fun _ h => h) 1 rfl) (HC.out.mod HS.out (fun _ h => h)) hk1 (by omega) (by omega) hok).mono ?_; rintro e_ w1 ⟨d2, n2, B2, b2, l2, k2, h2, rfl, hd2, hd3, hn2, hn3, hk2, hok2, hs⟩; replace HS : Aside0 (Mod _ _ _ [_, _, _]) := sM2 HS 0 1 [2] rfl rfl hs; clear hs) | ((with_reducible refine gate_store (t := 26) (p := 2) rfl ?_); refine stL HS 2 0 #[.int .i64 d2, .int .i64 n2, .slice B2 l2.length b2] rfl rfl rfl rfl rfl ?_; clear HS; intro w1 HS))
  refine bodyPost_ret (results_cell_row rfl _ _ g_r 26 #[.int .i64 d2, .int .i64 n2, .slice B2 l2.length b2] (0, 0) _ rfl (HS.out.at (i := 2) rfl) Try.underlying26 rfl (by kernel_rfl)) rfl ?_
  exact ⟨d2, n2, B2, b2, l2, k2, h2, rfl, hd2, hd3, hn2, hn3, hk2, hok2, HS.out.sel [0, 1] (by decide)⟩
end Go.Proofs.Ytibjkjhpfmmjoaa.H



namespace Go.Proofs.Ytibjkjhpfmmjoaa.H
open Go.RowKit Go.Proofs.YtibjkjhpfmmjoaaW.PrintWords Go.Proofs.YtibjkjhpfmmjoaaW.PrintLast Go.Proofs.YtibjkjhpfmmjoaaW.PrintMore Go.Proofs.Ytibjkjhpfmmjoaa.M
attribute [local go_sem] max2_int min2_int max_two min_two max_three min_three max_four min_four
set_option linter.unusedVariables false
set_option linter.unusedSimpArgs false
set_option maxRecDepth 100000
theorem str1_size (x : Int) : (strOfNums [x]).size = 1 := rfl
end Go.Proofs.Ytibjkjhpfmmjoaa.H


namespace Go.Proofs.Ytibjkjhpfmmjoaa.H
open Go.RowKit Go.Proofs.YtibjkjhpfmmjoaaW.PrintWords Go.Proofs.YtibjkjhpfmmjoaaW.PrintLast Go.Proofs.YtibjkjhpfmmjoaaW.PrintMore Go.Proofs.Ytibjkjhpfmmjoaa.M
attribute [local go_sem] max2_int min2_int max_two min_two max_three min_three max_four min_four
set_option linter.unusedVariables false
set_option linter.unusedSimpArgs false
set_option maxRecDepth 100000
structure Bytes (w : World) (A : Option Addr) (xs : List Int) : Prop where
  r : (Kd.int .u8).C w A xs.length xs
  b : ∀ x ∈ xs, 0 ≤ x ∧ x < 256
  l : xs.length ≤ 1048576
theorem Bytes.old {w W : World} {A : Option Addr} {xs : List Int} {L : List As} (h : Bytes w A xs) (HS : Mod w W No L) : Bytes W A xs := ⟨HS.oldC h.r, h.b, h.l⟩
theorem Bytes.code {w W : World} {A : Option Addr} {xs : List Int} {L : List As} (h : Bytes w A xs) (HS : Mod w W No L) {i g t : Nat} {cs : Array Value} (hi : L[i]? = some (bx g t cs)) : Code W g A xs.length := Code.of HS hi h.r h.b
end Go.Proofs.Ytibjkjhpfmmjoaa.H


namespace Go.Proofs.Ytibjkjhpfmmjoaa.H
open Go.RowKit Go.Proofs.YtibjkjhpfmmjoaaW.PrintWords Go.Proofs.YtibjkjhpfmmjoaaW.PrintLast Go.Proofs.YtibjkjhpfmmjoaaW.PrintMore Go.Proofs.Ytibjkjhpfmmjoaa.M
attribute [local go_sem] max2_int min2_int max_two min_two max_three min_three max_four min_four
set_option linter.unusedVariables false
set_option linter.unusedSimpArgs false
set_option maxRecDepth 100000
theorem results_cell_cell_row {P : Program} {fn : Func} {p q : Tmp} {ty : TypeId} (h : fn.results = #[.cell p ty, .cell q ty]) (tmps : Array Value) (w : World) (g g2 : Nat) (t t2 : TypeId) (cs cs2 : Array Value) (fr fr2 : Nat × Nat) (d : TypeDesc)
    (hp : tmps.getD p undef = .pointer (some ⟨g, 0, none⟩)) (hg : w.heap[g]? = some (.cells cs t fr))
    (hq : tmps.getD q undef = .pointer (some ⟨g2, 0, none⟩)) (hg2 : w.heap[g2]? = some (.cells cs2 t2 fr2))
    (hu : P.underlying ty = some d) (hd : (match d with | .struct _ | .array _ _ => true | _ => false) = true) (hi : (P.info? ty).map (·.size) = some cs.size) (hi2 : (P.info? ty).map (·.size) = some cs2.size) :
    (results fn tmps).run P w = .ok (.tuple #[.agg cs, .agg cs2]) w := by
  have hp' : tmps[p]?.getD undef = .pointer (some ⟨g, 0, none⟩) := by simpa using hp
  have hq' : tmps[q]?.getD undef = .pointer (some ⟨g2, 0, none⟩) := by simpa using hq
  simp [results, h, hp', hq', asAddr, Sem.run_bind, run_loadVar_row w g t ty cs fr d hg hu hd hi, run_loadVar_row w g2 t2 ty cs2 fr2 d hg2 hu hd hi2]
theorem Bytes.apart {w W : World} {A : Option Addr} {xs : List Int} {L : List As} (h : Bytes w A xs) (HS : Mod w W No L) (i : Nat) {a : As} (hi : L[i]? = some a) : Apart A xs.length a.S := fun ad q hA hn hq => by
  obtain ⟨ad', ea, h3⟩ := ki_at h.r (show xs[0]? = some xs[0] from List.getElem?_eq_getElem hn)
  rw [hA] at ea
  injection ea with ea
  subst ea
  have h4 := World.block_lt_of_cell? w _ h3
  rw [add_blk] at h4
  rintro rfl
  rcases (HS.all a (List.mem_of_getElem? hi)).2 _ hq with h5 | h5
  · exact h5.elim
  · omega
def RetTwo (w : World) (e : Ending) (w' : World) : Prop := ∃ (d n : Int) (B : Option Addr) (b : Nat) (l : Ts) (d2 n2 : Int) (B2 : Option Addr) (b2 : Nat) (l2 : Ts), e = .returned (.tuple #[.agg #[.int .i64 d, .int .i64 n, .slice B l.length b], .agg #[.int .i64 d2, .int .i64 n2, .slice B2 l2.length b2]]) ∧ (-1 ≤ d ∧ d ≤ 5 ∧ -1 ≤ n ∧ n ≤ 6) ∧ (-1 ≤ d2 ∧ d2 ≤ 5 ∧ -1 ≤ n2 ∧ n2 ≤ 6) ∧ okT l ∧ okT l2 ∧ Sep w w' [rowT B b l, rowT B2 b2 l2]
set_option maxHeartbeats 16000000 in
theorem specTwo (A : Option Addr) (c : Nat) (xs : List Int) (w : World) (hx : Bytes w A xs) : Calls Try.prog 66 #[.slice A xs.length c] w (RetTwo w) := by
  have HX := Aside0.mk hx
  have hl := hx.l
  have HN := Aside0.mk (fun g k h n W k1 k2 hk h1 => specNext g A c xs.length k h n W k1 k2 hk hl h1)
  have HD := Aside0.mk (fun g k h W k1 k2 hk => specDraw g A c xs.length k h W k1 k2 hk hl)
  have HO := Aside0.mk (fun g k h d n B0 m0 c0 W k1 k2 hk h1 h2 h3 => specDrawOf g A c xs.length k h d n B0 m0 c0 W k1 k2 hk hl h1 h2 h3)
  have HSP := Aside0.mk (fun g k h W k1 k2 hk => specSpoil g A c xs.length k h W k1 k2 hk hl)
  have HB := Aside0.mk (fun g k h d n B b l W k1 k2 k3 k4 k5 hk h1 h2 h3 => specBad g A c xs.length k h d n B b l W k1 k2 k3 k4 k5 hk hl h1 h2 h3)
  have HS := Aside0.mk (Sep.refl w)
  clear hx
  go_enter Try.func66, Try.ntmps66
  go_wp2_with (first | ((with_reducible refine gate_dst (N := 2) rfl ?_); refine bxL 26 #[(.int .i64 0), (.int .i64 0), (.slice none 0 0)] HS ?_; clear HS; intro g_r1 w1 hg_r1 HS) | ((with_reducible refine gate_dst (N := 3) rfl ?_); refine bxL 26 #[(.int .i64 0), (.int .i64 0), (.slice none 0 0)] HS ?_; clear HS; intro g_r2 w1 hg_r2 HS) | (go_at_call 51; refine (specFrom A c xs _ (HS.out.oldC HX.out.r) HX.out.l).mono ?_; rintro e_ w1 ⟨g, h, rfl, hs⟩; replace HS := sN1 HS hs; clear hs) | (go_at_call 101; refine (HD.out g 0 h _ (HS.out.at (i := 0) rfl) (HX.out.code HS.out (i := 0) rfl) (Nat.zero_le _)).mono ?_; rintro e_ w1 ⟨d, n, B, b, l, k1, h1, rfl, hd0, hd1, hn0, hn1, hk1, hok, hs⟩; have n_ := Aside0.mk (Mod.step (A0 := [srcB g A xs.length c 0 h]) (R := [bx g_r2 26 #[(.int .i64 0), (.int .i64 0), (.slice none 0 0)], bx g_r1 26 #[(.int .i64 0), (.int .i64 0), (.slice none 0 0)]]) (HS.out.sel [0, 1, 2] (by decide)) hs (fun k_ hk_ => ⟨_, List.mem_cons_self, hk_⟩)); clear HS hs; have HS := n_; clear n_; simp only [List.cons_append, List.nil_append] at HS) | ((with_reducible refine gate_dst (N := 5) rfl ?_); refine bxL 26 #[(.int .i64 0), (.int .i64 0), (.slice none 0 0)] HS ?_; clear HS; intro g_x w1 hg_x HS) | ((with_reducible refine gate_store (t := 26) (p := 5) rfl ?_); refine stL HS 0 0 #[.int .i64 (d : Int), .int .i64 (n : Int), .slice B l.length b] rfl rfl rfl rfl rfl ?_; clear HS; intro w1 HS) | (go_at_call 57; refine (HN.out g k1 h1 14 _ (HS.out.at (i := 1) rfl) (HX.out.code HS.out (i := 1) rfl) hk1 (by omega)).mono ?_; rintro e_ w1 ⟨u, k2, h2, rfl, hk2, hr1, hr2, hs⟩; replace HS : Aside0 (Mod _ _ _ [_, _, _, _, _]) := sM1 HS 1 [0, 2, 3, 4] rfl hs; clear hs; clear hr1 hr2; refine Hid.out ?_))
  refine Lib.hid ?_
  by_cases h0 : u = 0
  · have hu0 : (u == 0) = true := by rw [h0]; rfl
    clear h0
    have f1_ := HS.out.c 1 0 (v := .int .i64 (d : Int)) rfl rfl
    have f2_ := HS.out.c 1 1 (v := .int .i64 (n : Int)) rfl rfl
    have f3_ := HS.out.c 1 2 (v := .slice B l.length b) rfl rfl
    go_wp2_with (first | (go_at_call 100; refine (HB.out g k2 h2 d n B b l _ (HS.out.at (i := 0) rfl) (HS.out.at (i := 2) rfl) (fun q h1 h2 => HS.out.disj2 (i := 2) (j := 0) rfl rfl (by decide) q h1 h2) (HX.out.apart HS.out 2 rfl) (HX.out.code HS.out (i := 0) rfl) hk2 (by omega) (by omega) hok).mono ?_; rintro e_ w1 ⟨d2, n2, B2, b2, l2, k3, h3, rfl, hd2, hd3, hn2, hn3, hk3, hok2, hs⟩; replace HS : Aside0 (Mod _ _ _ [_, _, _, _, _]) := sM2 HS 0 2 [1, 3, 4] rfl rfl hs; clear hs f1_ f2_ f3_) | (go_at_call 50; refine (HSP.out g k3 h3 _ (HS.out.at (i := 0) rfl) (HX.out.code HS.out (i := 0) rfl) hk3).mono ?_; rintro e_ w1 ⟨d4, n4, B4, b4, l4, k4, h4, rfl, hd4, hd5, hn4, hn5, hk4, hok4, hs⟩; have n_ := Aside0.mk (Mod.step (A0 := [srcB g A xs.length c k3 h3]) (R := [rowT B2 b2 l2, bx g_x 26 #[.int .i64 (d : Int), .int .i64 (n : Int), .slice B l.length b], bx g_r2 26 #[(.int .i64 0), (.int .i64 0), (.slice none 0 0)], bx g_r1 26 #[(.int .i64 0), (.int .i64 0), (.slice none 0 0)]]) (HS.out.sel [0, 1, 2, 3, 4] (by decide)) hs (fun k_ hk_ => ⟨_, List.mem_cons_self, hk_⟩)); clear HS hs; have HS := n_; clear n_; simp only [List.cons_append, List.nil_append] at HS) | ((with_reducible refine gate_store (t := 26) (p := 2) rfl ?_); refine stL HS 5 0 #[.int .i64 d2, .int .i64 n2, .slice B2 l2.length b2] rfl rfl rfl rfl rfl ?_; clear HS; intro w1 HS) | ((with_reducible refine gate_store (t := 26) (p := 3) rfl ?_); refine stL HS 4 0 #[.int .i64 d4, .int .i64 n4, .slice B4 l4.length b4] rfl rfl rfl rfl rfl ?_; clear HS; intro w1 HS))
    refine bodyPost_ret (results_cell_cell_row rfl _ _ _ _ _ _ _ _ _ _ _ rfl (HS.out.at (i := 5) rfl) rfl (HS.out.at (i := 4) rfl) Try.underlying26 rfl (by kernel_rfl) (by kernel_rfl)) rfl ?_
    exact ⟨d2, n2, B2, b2, l2, d4, n4, B4, b4, l4, rfl, ⟨hd2, hd3, hn2, hn3⟩, ⟨hd4, hd5, hn4, hn5⟩, hok2, hok4, HS.out.sel [2, 1] (by decide)⟩
  · have hu0 : (u == 0) = false := by rw [beq_eq_false_iff_ne]; exact h0
    clear h0
    go_wp2
    replace HS := sD HS
    refine ps (.p 0 (.p 3 (.p 4 (.t 1 (.t 5 (.e 2 (.d 6 (.d 7 (.d 8 (.d 9 (.d 10 .done))))))))))) (fun w' => w'.cell? ⟨g_x, 0, none⟩ = some (.int .i64 (d : Int)) ∧ w'.cell? ⟨g_x, 1, none⟩ = some (.int .i64 (n : Int)) ∧ w'.cell? ⟨g_x, 2, none⟩ = some (.slice B l.length b)) [6, 7, 8, 9, 10] ⟨HS.out.c 1 0 (v := .int .i64 (d : Int)) rfl rfl, HS.out.c 1 1 (v := .int .i64 (n : Int)) rfl rfl, HS.out.c 1 2 (v := .slice B l.length b) rfl rfl⟩ (fun hHeld => ?_)
    repeat (first | ((with_reducible refine gate_p ?_); refine rp rfl rfl ?_) | ((with_reducible refine gate_t ?_); refine rt rfl rfl hHeld ?_))
    refine run_e rfl (fun K hK => ?_)
    refine gc Try.func100 (HB.out g k2 h2 d n B b l _ (HS.out.at (i := 0) rfl) (HS.out.at (i := 2) rfl) (fun q h1 h2 => HS.out.disj2 (i := 2) (j := 0) rfl rfl (by decide) q h1 h2) (HX.out.apart HS.out 2 rfl) (HX.out.code HS.out (i := 0) rfl) hk2 (by omega) (by omega) hok) rfl rfl ?_
    rintro e_ w1 ⟨d2, n2, B2, b2, l2, k3, h3, rfl, hd2, hd3, hn2, hn3, hk3, hok2, hs⟩
    refine ⟨_, rfl, ?_⟩
    replace HS : Aside0 (Mod _ _ _ [_, _, _, _, _]) := sM2 HS 0 2 [1, 3, 4] rfl rfl hs
    clear hs
    refine ge hK ⟨HS.out.c 2 0 (v := .int .i64 (d : Int)) rfl rfl, HS.out.c 2 1 (v := .int .i64 (n : Int)) rfl rfl, HS.out.c 2 2 (v := .slice B l.length b) rfl rfl⟩ (fun hHeld => ?_)
    clear hK K
    refine run_d rfl (fun K hK => ?_)
    refine gc Try.func62 (specEmpty (d : Int) (n : Int) B l.length b _) rfl rfl ?_
    rintro e_ w1 ⟨B3, b3, rfl, hs⟩
    refine ⟨_, rfl, ?_⟩
    replace HS := sN1 HS hs
    clear hs
    refine gd hK ?_
    clear hK K
    refine run_d rfl (fun K hK => ?_)
    refine gc Try.func112 (HO.out g k3 h3 d n B3 0 b3 _ (HS.out.at (i := 1) rfl) (HX.out.code HS.out (i := 1) rfl) hk3 (by omega) (by omega) (by omega)) rfl rfl ?_
    rintro e_ w1 ⟨B5, b5, l5, k5, h5, rfl, hk5, hbl, hll, hs⟩
    refine ⟨_, rfl, ?_⟩
    have n_ := Aside0.mk (Mod.step (A0 := [srcB g A xs.length c k3 h3]) (R := [rowT B3 b3 [], rowT B2 b2 l2, bx g_x 26 #[.int .i64 (d : Int), .int .i64 (n : Int), .slice B l.length b], bx g_r2 26 #[(.int .i64 0), (.int .i64 0), (.slice none 0 0)], bx g_r1 26 #[(.int .i64 0), (.int .i64 0), (.slice none 0 0)]]) (HS.out.sel [1, 0, 2, 3, 4, 5] (by decide)) hs (fun k_ hk_ => ⟨_, List.mem_cons_self, hk_⟩))
    clear HS hs
    have HS := n_
    clear n_
    simp only [List.cons_append, List.nil_append] at HS
    refine gd hK ?_
    clear hK K
    refine run_d rfl (fun K hK => ?_)
    refine gc Try.func100 (HB.out g k5 h5 d n B5 b5 l5 _ (HS.out.at (i := 0) rfl) (HS.out.at (i := 1) rfl) (fun q h1 h2 => HS.out.disj2 (i := 1) (j := 0) rfl rfl (by decide) q h1 h2) (HX.out.apart HS.out 1 rfl) (HX.out.code HS.out (i := 0) rfl) hk5 (by omega) (by omega) ⟨hbl, hll⟩) rfl rfl ?_
    rintro e_ w1 ⟨d4, n4, B4, b4, l4, k4, h4, rfl, hd4, hd5, hn4, hn5, hk4, hok4, hs⟩
    refine ⟨_, rfl, ?_⟩
    replace HS : Aside0 (Mod _ _ _ [_, _, _, _, _, _, _]) := sM2 HS 0 1 [2, 3, 4, 5, 6] rfl rfl hs
    clear hs
    refine gd hK ?_
    clear hK K
    refine run_d rfl (fun K hK => ?_)
    refine st1 HS 6 0 #[.int .i64 d2, .int .i64 n2, .slice B2 l2.length b2] rfl rfl rfl rfl rfl ?_
    clear HS
    intro w1 HS
    refine goD hK rfl ?_
    clear hK K
    refine run_d rfl (fun K hK => ?_)
    refine st1 HS 5 0 #[.int .i64 d4, .int .i64 n4, .slice B4 l4.length b4] rfl rfl rfl rfl rfl ?_
    clear HS
    intro w1 HS
    refine goD hK rfl ?_
    clear hK K
    refine run_done ?_
    clear hHeld
    go_wp2
    refine bodyPost_ret (results_cell_cell_row rfl _ _ _ _ _ _ _ _ _ _ _ rfl (HS.out.at (i := 6) rfl) rfl (HS.out.at (i := 5) rfl) Try.underlying26 rfl (by kernel_rfl) (by kernel_rfl)) rfl ?_
    exact ⟨d2, n2, B2, b2, l2, d4, n4, B4, b4, l4, rfl, ⟨hd2, hd3, hn2, hn3⟩, ⟨hd4, hd5, hn4, hn5⟩, hok2, hok4, HS.out.sel [3, 1] (by decide)⟩
end Go.Proofs.Ytibjkjhpfmmjoaa.H



namespace Go.Proofs.Ytibjkjhpfmmjoaa.H
open Go.RowKit Go.Proofs.YtibjkjhpfmmjoaaW.PrintWords Go.Proofs.YtibjkjhpfmmjoaaW.PrintLast Go.Proofs.YtibjkjhpfmmjoaaW.PrintMore Go.Proofs.Ytibjkjhpfmmjoaa.M
attribute [local go_sem] max2_int min2_int max_two min_two max_three min_three max_four min_four
set_option linter.unusedVariables false
set_option linter.unusedSimpArgs false
set_option maxRecDepth 100000
def RetOneI (w : World) (e : Ending) (w' : World) : Prop := ∃ (d n : Int) (B : Option Addr) (b : Nat) (l : Ts) (k : Int), e = .returned (.tuple #[.agg #[.int .i64 d, .int .i64 n, .slice B l.length b], .int .i64 k]) ∧ (-1 ≤ d ∧ d ≤ 5 ∧ -1 ≤ n ∧ n ≤ 6) ∧ okT l ∧ (-4611686018427387904 ≤ k ∧ k ≤ 4611686018427387904) ∧ Sep w w' [rowT B b l]
set_option maxHeartbeats 8000000 in
theorem specDrawShuffleSeries (A : Option Addr) (c : Nat) (xs : List Int) (w : World) (hx : Bytes w A xs) : Calls Try.prog 43 #[.slice A xs.length c] w (RetTwo w) := by
  have HX := Aside0.mk hx
  have HS := Aside0.mk (Sep.refl w)
  clear hx
  go_enter Try.func43, Try.ntmps43
  go_wp2_with (first | ((with_reducible refine gate_dst (N := 2) rfl ?_); refine bxL 26 #[(.int .i64 0), (.int .i64 0), (.slice none 0 0)] HS ?_; clear HS; intro g_r1 w1 hg_r1 HS) | ((with_reducible refine gate_dst (N := 3) rfl ?_); refine bxL 26 #[(.int .i64 0), (.int .i64 0), (.slice none 0 0)] HS ?_; clear HS; intro g_r2 w1 hg_r2 HS) | (go_at_call 66; refine (specTwo A c xs _ (HX.out.old HS.out)).mono ?_; rintro e_ w1 ⟨d, n, B, b, l, d2, n2, B2, b2, l2, rfl, hb1, hb2, hok, hok2, hs⟩; replace HS := sN2 HS hs; clear hs) | ((with_reducible refine gate_dst (N := 4) rfl ?_); refine bxL 26 #[(.int .i64 0), (.int .i64 0), (.slice none 0 0)] HS ?_; clear HS; intro g_x w1 hg_x HS) | ((with_reducible refine gate_dst (N := 5) rfl ?_); refine bxL 26 #[(.int .i64 0), (.int .i64 0), (.slice none 0 0)] HS ?_; clear HS; intro g_y w1 hg_y HS) | ((with_reducible refine gate_store (t := 26) (p := 4) rfl ?_); refine stL HS 1 0 #[.int .i64 d, .int .i64 n, .slice B l.length b] rfl rfl rfl rfl rfl ?_; clear HS; intro w1 HS) | ((with_reducible refine gate_store (t := 26) (p := 5) rfl ?_); refine stL HS 0 0 #[.int .i64 d2, .int .i64 n2, .slice B2 l2.length b2] rfl rfl rfl rfl rfl ?_; clear HS; intro w1 HS))
  replace HS := sD HS
  refine ps (.t 0 (.t 1 (.e 2 (.d 3 .done)))) (fun w' => w'.cell? ⟨g_x, 0, none⟩ = some (.int .i64 d) ∧ w'.cell? ⟨g_x, 1, none⟩ = some (.int .i64 n) ∧ w'.cell? ⟨g_x, 2, none⟩ = some (.slice B l.length b) ∧ w'.cell? ⟨g_y, 0, none⟩ = some (.int .i64 d2) ∧ w'.cell? ⟨g_y, 1, none⟩ = some (.int .i64 n2) ∧ w'.cell? ⟨g_y, 2, none⟩ = some (.slice B2 l2.length b2)) [3] ⟨HS.out.c 1 0 (v := .int .i64 d) rfl rfl, HS.out.c 1 1 (v := .int .i64 n) rfl rfl, HS.out.c 1 2 (v := .slice B l.length b) rfl rfl, HS.out.c 0 0 (v := .int .i64 d2) rfl rfl, HS.out.c 0 1 (v := .int .i64 n2) rfl rfl, HS.out.c 0 2 (v := .slice B2 l2.length b2) rfl rfl⟩ (fun hHeld => ?_)
  repeat (first | ((with_reducible refine gate_p ?_); refine rp rfl rfl ?_) | ((with_reducible refine gate_t ?_); refine rt rfl rfl hHeld ?_))
  refine run_e rfl (fun K hK => ?_)
  refine st1 HS 5 0 #[.int .i64 d, .int .i64 n, .slice B l.length b] rfl rfl rfl rfl rfl ?_
  clear HS
  intro w1 HS
  refine goE hK ⟨HS.out.c 1 0 (v := .int .i64 d) rfl rfl, HS.out.c 1 1 (v := .int .i64 n) rfl rfl, HS.out.c 1 2 (v := .slice B l.length b) rfl rfl, HS.out.c 0 0 (v := .int .i64 d2) rfl rfl, HS.out.c 0 1 (v := .int .i64 n2) rfl rfl, HS.out.c 0 2 (v := .slice B2 l2.length b2) rfl rfl⟩ rfl (fun hHeld => ?_)
  clear hK K
  refine run_d rfl (fun K hK => ?_)
  refine st1 HS 4 0 #[.int .i64 d2, .int .i64 n2, .slice B2 l2.length b2] rfl rfl rfl rfl rfl ?_
  clear HS
  intro w1 HS
  refine goD hK rfl ?_
  clear hK K
  refine run_done ?_
  clear hHeld
  go_wp2
  refine bodyPost_ret (results_cell_cell_row rfl _ _ _ _ _ _ _ _ _ _ _ rfl (HS.out.at (i := 5) rfl) rfl (HS.out.at (i := 4) rfl) Try.underlying26 rfl (by kernel_rfl) (by kernel_rfl)) rfl ?_
  exact ⟨d, n, B, b, l, d2, n2, B2, b2, l2, rfl, hb1, hb2, hok, hok2, HS.out.sel [2, 3] (by decide)⟩
set_option maxHeartbeats 8000000 in
theorem specDrawHalfShuffle (A : Option Addr) (c : Nat) (xs : List Int) (w : World) (hx : Bytes w A xs) : Calls Try.prog 37 #[.slice A xs.length c] w (RetTwo w) := by
  have HX := Aside0.mk hx
  have HS := Aside0.mk (Sep.refl w)
  clear hx
  go_enter Try.func37, Try.ntmps37
  go_wp2_with (first | ((with_reducible refine gate_dst (N := 2) rfl ?_); refine bxL 26 #[(.int .i64 0), (.int .i64 0), (.slice none 0 0)] HS ?_; clear HS; intro g_r1 w1 hg_r1 HS) | ((with_reducible refine gate_dst (N := 3) rfl ?_); refine bxL 26 #[(.int .i64 0), (.int .i64 0), (.slice none 0 0)] HS ?_; clear HS; intro g_r2 w1 hg_r2 HS) | (go_at_call 66; refine (specTwo A c xs _ (HX.out.old HS.out)).mono ?_; rintro e_ w1 ⟨d, n, B, b, l, d2, n2, B2, b2, l2, rfl, hb1, hb2, hok, hok2, hs⟩; replace HS := sN2 HS hs; clear hs) | ((with_reducible refine gate_dst (N := 4) rfl ?_); refine bxL 26 #[(.int .i64 0), (.int .i64 0), (.slice none 0 0)] HS ?_; clear HS; intro g_x w1 hg_x HS) | ((with_reducible refine gate_dst (N := 5) rfl ?_); refine bxL 26 #[(.int .i64 0), (.int .i64 0), (.slice none 0 0)] HS ?_; clear HS; intro g_y w1 hg_y HS) | ((with_reducible refine gate_store (t := 26) (p := 4) rfl ?_); refine stL HS 1 0 #[.int .i64 d, .int .i64 n, .slice B l.length b] rfl rfl rfl rfl rfl ?_; clear HS; intro w1 HS) | ((with_reducible refine gate_store (t := 26) (p := 5) rfl ?_); refine stL HS 0 0 #[.int .i64 d2, .int .i64 n2, .slice B2 l2.length b2] rfl rfl rfl rfl rfl ?_; clear HS; intro w1 HS))
  replace HS := sD HS
  refine ps (.t 0 (.t 1 (.e 2 (.d 3 .done)))) (fun w' => w'.cell? ⟨g_x, 0, none⟩ = some (.int .i64 d) ∧ w'.cell? ⟨g_x, 1, none⟩ = some (.int .i64 n) ∧ w'.cell? ⟨g_x, 2, none⟩ = some (.slice B l.length b) ∧ w'.cell? ⟨g_y, 0, none⟩ = some (.int .i64 d2) ∧ w'.cell? ⟨g_y, 1, none⟩ = some (.int .i64 n2) ∧ w'.cell? ⟨g_y, 2, none⟩ = some (.slice B2 l2.length b2)) [3] ⟨HS.out.c 1 0 (v := .int .i64 d) rfl rfl, HS.out.c 1 1 (v := .int .i64 n) rfl rfl, HS.out.c 1 2 (v := .slice B l.length b) rfl rfl, HS.out.c 0 0 (v := .int .i64 d2) rfl rfl, HS.out.c 0 1 (v := .int .i64 n2) rfl rfl, HS.out.c 0 2 (v := .slice B2 l2.length b2) rfl rfl⟩ (fun hHeld => ?_)
  repeat (first | ((with_reducible refine gate_p ?_); refine rp rfl rfl ?_) | ((with_reducible refine gate_t ?_); refine rt rfl rfl hHeld ?_))
  refine run_e rfl (fun K hK => ?_)
  refine st1 HS 5 0 #[.int .i64 d, .int .i64 n, .slice B l.length b] rfl rfl rfl rfl rfl ?_
  clear HS
  intro w1 HS
  refine goE hK ⟨HS.out.c 1 0 (v := .int .i64 d) rfl rfl, HS.out.c 1 1 (v := .int .i64 n) rfl rfl, HS.out.c 1 2 (v := .slice B l.length b) rfl rfl, HS.out.c 0 0 (v := .int .i64 d2) rfl rfl, HS.out.c 0 1 (v := .int .i64 n2) rfl rfl, HS.out.c 0 2 (v := .slice B2 l2.length b2) rfl rfl⟩ rfl (fun hHeld => ?_)
  clear hK K
  refine run_d rfl (fun K hK => ?_)
  refine st1 HS 4 0 #[.int .i64 d2, .int .i64 n2, .slice B2 l2.length b2] rfl rfl rfl rfl rfl ?_
  clear HS
  intro w1 HS
  refine goD hK rfl ?_
  clear hK K
  refine run_done ?_
  clear hHeld
  go_wp2
  refine bodyPost_ret (results_cell_cell_row rfl _ _ _ _ _ _ _ _ _ _ _ rfl (HS.out.at (i := 5) rfl) rfl (HS.out.at (i := 4) rfl) Try.underlying26 rfl (by kernel_rfl) (by kernel_rfl)) rfl ?_
  exact ⟨d, n, B, b, l, d2, n2, B2, b2, l2, rfl, hb1, hb2, hok, hok2, HS.out.sel [2, 3] (by decide)⟩
set_option maxHeartbeats 8000000 in
theorem specDrawShufflePower (A : Option Addr) (c : Nat) (xs : List Int) (w : World) (hx : Bytes w A xs) : Calls Try.prog 45 #[.slice A xs.length c] w (RetOneI w) := by
  have HX := Aside0.mk hx
  have hl := hx.l
  have HN := Aside0.mk (fun g k h n W k1 k2 hk h1 => specNext g A c xs.length k h n W k1 k2 hk hl h1)
  have HE := Aside0.mk (fun g k h n W k1 k2 hk h1 h2 => specNear g A c xs.length k h n W k1 k2 hk hl h1 h2)
  have HSP := Aside0.mk (fun g k h W k1 k2 hk => specSpoil g A c xs.length k h W k1 k2 hk hl)
  have HP := Aside0.mk (fun g k h B b (x1 x2 x3 x4 x5 x6 : Int) W k1 k2 hk k3 k4 => specPick g A c xs.length k h B b [x1, x2, x3, x4, x5, x6] W k1 k2 hk hl k3 k4 (by simp) (by simp))
  have HS := Aside0.mk (Sep.refl w)
  clear hx
  go_enter Try.func45, Try.ntmps45
  go_wp2_with (first | ((with_reducible refine gate_dst (N := 2) rfl ?_); refine bxL 26 #[(.int .i64 0), (.int .i64 0), (.slice none 0 0)] HS ?_; clear HS; intro g_r w1 hg_r HS) | (go_at_call 51; refine (specFrom A c xs _ (HS.out.oldC HX.out.r) HX.out.l).mono ?_; rintro e_ w1 ⟨g, h, rfl, hs⟩; replace HS := sN1 HS hs; clear hs) | (go_at_call 50; refine (HSP.out g 0 h _ (HS.out.at (i := 0) rfl) (HX.out.code HS.out (i := 0) rfl) (Nat.zero_le _)).mono ?_; rintro e_ w1 ⟨d, n, B, b, l, k1, h1, rfl, hd0, hd1, hn0, hn1, hk1, hok, hs⟩; have n_ := Aside0.mk (Mod.step (A0 := [srcB g A xs.length c 0 h]) (R := [bx g_r 26 #[(.int .i64 0), (.int .i64 0), (.slice none 0 0)]]) (HS.out.sel [0, 1] (by decide)) hs (fun k_ hk_ => ⟨_, List.mem_cons_self, hk_⟩)); clear HS hs; have HS := n_; clear n_; simp only [List.cons_append, List.nil_append] at HS) | (go_at_call 75; refine (HE.out g k1 h1 8 _ (HS.out.at (i := 0) rfl) (HX.out.code HS.out (i := 0) rfl) hk1 (by omega) (by omega)).mono ?_; rintro e_ w1 ⟨z, k2, h2, rfl, hk2, hz, hs⟩; replace HS : Aside0 (Mod _ _ _ [_, _, _]) := sM1 HS 0 [1, 2] rfl hs; clear hs) | ((with_reducible refine gate_dst (N := 12) rfl ?_); refine wpList_stp (fun K hK => ?_); refine stp_lit (Kd.int .i64) rfl 2 (by rfl) HS (xs := [0, 1, 2, 2, 3, z]) (inner := [.int .i64 0, .int .i64 1, .int .i64 2, .int .i64 2, .int .i64 3, .int .i64 z]) (by first | (go_simp; done) | (go_simp; rfl)) (fun W base ok => reps_ints W base ok _) (by simp) ?_; clear HS; intro A_p c_p w1 HS; refine hK _ _ ?_; clear hK K) | (go_at_call 74; refine (HP.out g k2 h2 A_p c_p 0 1 2 2 3 z _ (HS.out.at (i := 1) rfl) (HX.out.code HS.out (i := 1) rfl) hk2 (HS.out.at (i := 0) rfl) (fun q h1 h2 => HS.out.disj2 (i := 0) (j := 1) rfl rfl (by decide) q h1 h2)).mono ?_; rintro e_ w1 ⟨u, k3, h3, rfl, hk3, hr, hs⟩; replace HS : Aside0 (Mod _ _ _ [_, _, _, _]) := sM1 HS 1 [0, 2, 3] rfl hs; clear hs; obtain ⟨hu1, hu2⟩ : -4611686018427387904 ≤ u ∧ u ≤ 4611686018427387904 := (by simp only [List.mem_cons, List.not_mem_nil, or_false] at hr; omega); clear hr) | ((with_reducible refine gate_store (t := 26) (p := 2) rfl ?_); refine stL HS 3 0 #[.int .i64 d, .int .i64 n, .slice B l.length b] rfl rfl rfl rfl rfl ?_; clear HS; intro w1 HS))
  refine bodyPost_ret (results_cell_tmp_row rfl _ _ g_r 26 #[.int .i64 d, .int .i64 n, .slice B l.length b] (0, 0) _ rfl (HS.out.at (i := 3) rfl) Try.underlying26 rfl (by kernel_rfl)) rfl ?_
  exact ⟨d, n, B, b, l, u, rfl, ⟨hd0, hd1, hn0, hn1⟩, hok, ⟨hu1, hu2⟩, HS.out.sel [2] (by decide)⟩
end Go.Proofs.Ytibjkjhpfmmjoaa.H



namespace Go.Proofs.Ytibjkjhpfmmjoaa.H
open Go.RowKit Go.Proofs.YtibjkjhpfmmjoaaW.PrintWords Go.Proofs.YtibjkjhpfmmjoaaW.PrintLast Go.Proofs.YtibjkjhpfmmjoaaW.PrintMore Go.Proofs.Ytibjkjhpfmmjoaa.M
set_option linter.unusedVariables false
set_option linter.unusedSimpArgs false
set_option maxRecDepth 100000
set_option maxHeartbeats 4000000 in
theorem lawSeries5 (d n : Int) (A B : Option Addr) (c c' : Nat) (l : Ts) (w : World) (hr : KT.C w A l.length l) (hr2 : KT.C w B l.length l) (hm : l.length ≤ 1048576) :
    Calls Try.prog 35 #[.agg #[.int .i64 d, .int .i64 n, .slice A l.length c], .agg #[.int .i64 d, .int .i64 n, .slice B l.length c']] w fun e w' => e = .returned (.bool true) ∧ Below w.heap.size w w' := by
  have HR := Aside0.mk hr
  have HR2 := Aside0.mk hr2
  have HS := Aside0.mk (Sep.refl w)
  have h1 : (d != d) = false := by simp
  have h2 : (n != n) = false := by simp
  have h3 : ((l.length : Int) != (l.length : Int)) = false := by simp
  clear hr hr2
  go_enter Try.func35, Try.ntmps35
  go_wp2_with (first | ((with_reducible refine gate_dst (N := 2) rfl ?_); refine bxL 26 #[.int .i64 d, .int .i64 n, .slice A l.length c] HS ?_; clear HS; intro g_a w1 hg_a HS) | ((with_reducible refine gate_dst (N := 3) rfl ?_); refine bxL 26 #[.int .i64 d, .int .i64 n, .slice B l.length c'] HS ?_; clear HS; intro g_b w1 hg_b HS; have f1_ := HS.out.c 1 0 (v := .int .i64 d) rfl rfl; have f2_ := HS.out.c 0 0 (v := .int .i64 d) rfl rfl; have f3_ := HS.out.c 1 1 (v := .int .i64 n) rfl rfl; have f4_ := HS.out.c 0 1 (v := .int .i64 n) rfl rfl; have f5_ := HS.out.c 1 2 (v := .slice A l.length c) rfl rfl; have f6_ := HS.out.c 0 2 (v := .slice B l.length c') rfl rfl))
  go_loopw [5] (fun v w' => ∃ k : Nat, k ≤ l.length ∧ v = .int .i64 (k : Int) ∧ Aside0 (Mod w w' No [bx g_b 26 #[.int .i64 d, .int .i64 n, .slice B l.length c'], bx g_a 26 #[.int .i64 d, .int .i64 n, .slice A l.length c]])) (fun v _ => l.length - (intOf v).toNat)
  case atStart => exact ⟨0, by omega, rfl, HS⟩
  case round =>
    clear HS
    obtain ⟨k, hk, rfl, HS⟩ := hrel
    by_cases hlt : k < l.length
    · skip
      obtain ⟨ad_A, ea_, h0_, h1_, h2_⟩ := tm_at HR.out k (hlt)
      cases ea_
      obtain ⟨t, ht_⟩ : ∃ t_, t_ = l.getD k zT := ⟨_, rfl⟩
      rw [← ht_] at h0_ h1_ h2_
      have Et := Aside0.mk ht_; have H0t := Aside0.mk h0_; have H1t := Aside0.mk h1_; have H2t := Aside0.mk h2_
      clear ht_ h0_ h1_ h2_
      obtain ⟨ad_B, ea_, h0_, h1_, h2_⟩ := tm_at HR2.out k (hlt)
      cases ea_
      rw [← Et.out] at h0_ h1_ h2_
      have H0u := Aside0.mk h0_; have H1u := Aside0.mk h1_; have H2u := Aside0.mk h2_
      clear h0_ h1_ h2_
      have hq0 : (0 : Int) ≤ k := by omega
      have hq1 : (k : Int) < l.length := by omega
      have f1_ := HS.out.c 1 2 (v := .slice (some ad_A) l.length c) rfl rfl
      go_wp2
      clear f1_
      replace HS := sD HS
      refine ps (.p 0 (.p 2 (.p 5 (.p 7 (.t 1 (.p 3 (.t 4 (.t 6 (.p 8 (.t 9 (.p 10 .done))))))))))) (fun w' => w'.cell? ⟨g_a, 2, none⟩ = some (.slice (some ad_A) l.length c) ∧ w'.cell? (ad_A.add (k * 3)) = some (.string t.1) ∧ w'.cell? ⟨(ad_A.add (k * 3)).block, (ad_A.add (k * 3)).off + 1, none⟩ = some (.int .i64 t.2.1) ∧ w'.cell? ⟨(ad_A.add (k * 3)).block, (ad_A.add (k * 3)).off + 2, none⟩ = some (.int .i64 t.2.2) ∧ w'.cell? ⟨g_b, 2, none⟩ = some (.slice (some ad_B) l.length c') ∧ w'.cell? (ad_B.add (k * 3)) = some (.string t.1) ∧ w'.cell? ⟨(ad_B.add (k * 3)).block, (ad_B.add (k * 3)).off + 1, none⟩ = some (.int .i64 t.2.1) ∧ w'.cell? ⟨(ad_B.add (k * 3)).block, (ad_B.add (k * 3)).off + 2, none⟩ = some (.int .i64 t.2.2)) [] ⟨HS.out.c 1 2 (v := .slice (some ad_A) l.length c) rfl rfl, HS.out.old H0t.out, HS.out.old H1t.out, HS.out.old H2t.out, HS.out.c 0 2 (v := .slice (some ad_B) l.length c') rfl rfl, HS.out.old H0u.out, HS.out.old H1u.out, HS.out.old H2u.out⟩ (fun hHeld => ?_)
      repeat (first | ((with_reducible refine gate_p ?_); refine rp rfl rfl ?_) | ((with_reducible refine gate_t ?_); refine rt rfl rfl hHeld ?_))
      refine run_done ?_
      clear hHeld
      go_wp2
      go_roundw
      case rel => exact ⟨k + 1, by omega, by go_num, HS⟩
      case measure => simp [intOf]; omega
    · skip
      have f1_ := HS.out.c 1 2 (v := .slice A l.length c) rfl rfl
      go_wp2
      go_ret
      exact ⟨rfl, HS.out.below⟩
end Go.Proofs.Ytibjkjhpfmmjoaa.H



