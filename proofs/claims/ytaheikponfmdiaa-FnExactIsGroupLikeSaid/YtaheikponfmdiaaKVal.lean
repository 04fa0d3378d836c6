/- The reference's coefficient at a word. Conditions: the argument's row is read. -/
import Derived.Test.YtaheikponfmdiaaKSep
namespace Go.Proofs.Ytaheikponfmdiaa.H
open Go.RowKit Go.Proofs.YtaheikponfmdiaaW.PrintWords Go.Proofs.YtaheikponfmdiaaW.PrintLast Go.Proofs.YtaheikponfmdiaaW.PrintMore Go.Proofs.Ytaheikponfmdiaa.M
attribute [local go_sem] max2_int min2_int max_two min_two max_three min_three max_four min_four
set_option linter.unusedVariables false
set_option linter.unusedSimpArgs false
set_option maxRecDepth 100000 in
set_option maxHeartbeats 4000000 in
theorem specValue (d n : Int) (A : Option Addr) (c : Nat) (l : Ts) (u : ByteArray) (w : World) (hr : KT.C w A l.length l) (hc : l.length ≤ c) (hl : l.length ≤ 1048576) :
    Calls Try.prog 103 #[.agg #[.int .i64 d, .int .i64 n, .slice A l.length c], .string u] w fun e w' => e = .returned (.agg #[.int .i64 (co l u).1, .int .i64 (co l u).2]) ∧ Below w.heap.size w w' := by
  have HR := Aside0.mk hr
  have HS := Aside0.mk (Sep.refl w)
  clear hr
  go_enter Try.func103, Try.ntmps103
  go_wp2_with (first | ((with_reducible refine gate_dst (N := 2) rfl ?_); refine bxL 24 #[.int .i64 d, .int .i64 n, .slice A l.length c] HS ?_; clear HS; intro g_x w1 hg_x HS) | ((with_reducible refine gate_dst (N := 4) rfl ?_); refine bxL 35 #[(.int .i64 0), (.int .i64 0)] HS ?_; clear HS; intro g_r w1 hg_r HS))
  go_loopw [5] (fun v w' => ∃ k : Nat, k ≤ l.length ∧ v = .int .i64 (k : Int) ∧ Aside0 (∀ j, j < k → (l.getD j zT).1 ≠ u) ∧ Aside0 (Mod w w' No [bx g_r 35 #[(.int .i64 0), (.int .i64 0)], bx g_x 24 #[.int .i64 d, .int .i64 n, .slice A l.length c]])) (fun v _ => l.length - (intOf v).toNat)
  case atStart => exact ⟨0, by omega, rfl, ⟨fun j hj => by omega⟩, HS⟩
  case round =>
    clear HS
    obtain ⟨k, hk, rfl, HY, HS⟩ := hrel
    by_cases hlt : k < l.length
    · obtain ⟨ad, rfl, h0_, h1_, h2_⟩ := tm_at HR.out k hlt
      have HC := Aside0.mk (@co_take l u k HY.out hlt)
      obtain ⟨t, ht⟩ : ∃ t, t = l.getD k zT := ⟨_, rfl⟩
      have HT := Aside0.mk ht
      rw [← ht] at h0_ h1_ h2_ HC
      clear ht
      have H0 := Aside0.mk h0_
      have H1 := Aside0.mk h1_
      have H2 := Aside0.mk h2_
      clear h0_ h1_ h2_
      by_cases he : t.1 = u
      · have hb : (t.1.toList == u.toList) = true := by rw [str_eq, decide_eq_true he]
        have HE := Aside0.mk he
        clear he
        have f1_ := HS.out.c 1 2 (v := .slice (some ad) l.length c) rfl rfl
        have f2_ := HS.out.old H0.out
        have f3_ := HS.out.old H1.out
        have f4_ := c2 (HS.out.old H2.out)
        go_wp2_with (first | ((with_reducible refine gate_store (t := 35) (p := 4) rfl ?_); refine stL HS 0 0 #[.int .i64 t.2.1, .int .i64 t.2.2] rfl rfl rfl rfl rfl ?_; clear HS f1_ f2_ f3_ f4_; intro w1 HS))
        refine bodyPost_ret (results_cell_row rfl _ _ g_r 35 #[.int .i64 t.2.1, .int .i64 t.2.2] (0, 0) _ rfl (HS.out.at (i := 0) rfl) Try.underlying35 rfl (by kernel_rfl)) rfl ?_
        exact ⟨by rw [HC.out HE.out], HS.out.below⟩
      · have hb : (t.1.toList == u.toList) = false := by rw [str_eq, decide_eq_false he]
        have HE := Aside0.mk he
        clear he
        have f1_ := HS.out.c 1 2 (v := .slice (some ad) l.length c) rfl rfl
        have f2_ := HS.out.old H0.out
        go_wp2
        go_roundw
        case rel => exact ⟨k + 1, by omega, by go_num, ⟨round_next HY.out (by rw [← HT.out]; exact HE.out)⟩, HS⟩
        case measure => simp [intOf]; omega
    · skip
      have f1_ := HS.out.c 1 2 (v := .slice A l.length c) rfl rfl
      go_wp2_with (first | ((with_reducible refine gate_store (t := 35) (p := 4) rfl ?_); refine stL HS 0 0 #[(.int .i64 0), (.int .i64 1)] rfl rfl rfl rfl rfl ?_; clear HS f1_; intro w1 HS))
      refine bodyPost_ret (results_cell_row rfl _ _ g_r 35 #[(.int .i64 0), (.int .i64 1)] (0, 0) _ rfl (HS.out.at (i := 0) rfl) Try.underlying35 rfl (by kernel_rfl)) rfl ?_
      exact ⟨by rw [co_all (fun j hj => HY.out j (by omega))], HS.out.below⟩
end Go.Proofs.Ytaheikponfmdiaa.H


