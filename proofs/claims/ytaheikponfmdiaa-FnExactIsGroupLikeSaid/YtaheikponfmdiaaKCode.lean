/- Codes of two series: what the program and the reference return. Conditions: the bounds that stand in each statement. -/
import Derived.Test.YtaheikponfmdiaaKBasic
import Derived.Test.YtaheikponfmdiaaKTab
namespace Go.Proofs.Ytaheikponfmdiaa.M
/-- The code of two series. -/
def codeR (d n : Int) (l : Ts) (d2 n2 : Int) (l2 : Ts) : Int := if isS d n l = true then if isS d2 n2 l2 = true then if d = d2 ∧ n = n2 then 0 else 2 else 1 else 1
theorem codeR_1 {d n : Int} {l : Ts} {d2 n2 : Int} {l2 : Ts} (h : isS d n l = false) : codeR d n l d2 n2 l2 = 1 := by unfold codeR; rw [if_neg (by rw [h]; decide)]
theorem codeR_2 {d n : Int} {l : Ts} {d2 n2 : Int} {l2 : Ts} (h : isS d n l = true) (h2 : isS d2 n2 l2 = false) : codeR d n l d2 n2 l2 = 1 := by unfold codeR; rw [if_pos h, if_neg (by rw [h2]; decide)]
theorem codeR_3 {d n : Int} {l : Ts} {d2 n2 : Int} {l2 : Ts} (h : isS d n l = true) (h2 : isS d2 n2 l2 = true) (h3 : decide (d = d2 ∧ n = n2) = false) : codeR d n l d2 n2 l2 = 2 := by unfold codeR; rw [if_pos h, if_pos h2, if_neg (of_decide_eq_false h3)]
theorem codeR_4 {d n : Int} {l : Ts} {d2 n2 : Int} {l2 : Ts} (h : isS d n l = true) (h2 : isS d2 n2 l2 = true) (h3 : decide (d = d2 ∧ n = n2) = true) : codeR d n l d2 n2 l2 = 0 := by unfold codeR; rw [if_pos h, if_pos h2, if_pos (of_decide_eq_true h3)]
theorem codeR_zero {d n : Int} {l : Ts} {d2 n2 : Int} {l2 : Ts} (h : codeR d n l d2 n2 l2 = 0) : isS d n l = true ∧ isS d2 n2 l2 = true ∧ d = d2 ∧ n = n2 := by
  unfold codeR at h
  split at h
  · rename_i h1
    split at h
    · rename_i h2
      split at h
      · rename_i h3; exact ⟨h1, h2, h3.1, h3.2⟩
      · cases h
    · cases h
  · cases h
end Go.Proofs.Ytaheikponfmdiaa.M
namespace Go.Proofs.Ytaheikponfmdiaa.H
open Go.RowKit Go.Proofs.YtaheikponfmdiaaW.PrintWords Go.Proofs.YtaheikponfmdiaaW.PrintLast Go.Proofs.YtaheikponfmdiaaW.PrintMore Go.Proofs.Ytaheikponfmdiaa.M
attribute [local go_sem] max2_int min2_int max_two min_two max_three min_three max_four min_four
set_option linter.unusedVariables false
set_option linter.unusedSimpArgs false
set_option maxRecDepth 100000
theorem stp_bs {P : Program} {ops : Array Oper} {o : Oper} {a : Act} {Q : Exit → Act → World → Prop} {Kc : Act → World → Prop} {w W : World} {S : Nat → Prop} {L : List As} (hw : Region.wanted o (yielded ops a.tmps) = true) {cs : Array Value} {t : TypeId} {m : Nat} (HS : Aside0 (Mod w W S L))
    (hrun : (execOp a.eval o).run P W = .ok (.value (.slice (some ⟨W.heap.size, 0, none⟩) m m)) (W.alloc (.cells cs t (0, 0))))
    (h : ∀ g w1, w.heap.size ≤ g → Aside0 (Mod w w1 S (bx g t cs :: L)) → Kc (a.put o.dst (.slice (some ⟨g, 0, none⟩) m m)) w1) : Stp P ops Q o a W Kc := by
  unfold Stp
  rw [if_pos hw]
  unfold Oper.wp
  rw [hrun]
  exact h _ _ HS.out.size ⟨HS.out.new (A := [bx W.heap.size t cs]) (Sep.one (below_alloc (Below.refl _ _) _) (blk_new W _) (fun k hk => by rw [show k = W.heap.size from hk]; exact Nat.le_refl _))⟩
theorem specAlike (d n d2 n2 : Int) (A A2 : Option Addr) (m c m2 c2 : Nat) (w : World) : Calls Try.prog 167 #[.agg #[.int .i64 d, .int .i64 n, .slice A m c], .agg #[.int .i64 d2, .int .i64 n2, .slice A2 m2 c2]] w fun e w' => e = .returned (.bool (decide (d = d2 ∧ n = n2))) ∧ Below w.heap.size w w' := by
  have HS := Aside0.mk (Sep.refl w)
  by_cases h1 : d = d2
  · subst h1
    have hb : (d == d) = true := by simp
    by_cases h2 : n = n2
    · subst h2
      have hb2 : (n == n) = true := by simp
      go_enter Try.func167, Try.ntmps167
      go_wp2_with (first | ((with_reducible refine gate_dst (N := 2) rfl ?_); refine bxL 24 #[.int .i64 d, .int .i64 n, .slice A m c] HS ?_; clear HS; intro g_x w1 hg_x HS) | ((with_reducible refine gate_dst (N := 3) rfl ?_); refine bxL 24 #[.int .i64 d, .int .i64 n, .slice A2 m2 c2] HS ?_; clear HS; intro g_y w1 hg_y HS; have f1_ := HS.out.c 1 0 (v := .int .i64 d) rfl rfl; have f2_ := HS.out.c 0 0 (v := .int .i64 d) rfl rfl; have f3_ := HS.out.c 1 1 (v := .int .i64 n) rfl rfl; have f4_ := HS.out.c 0 1 (v := .int .i64 n) rfl rfl))
      go_ret
      exact ⟨ret_bool (by simp), HS.out.below⟩
    · have hb2 : (n == n2) = false := by simpa using h2
      go_enter Try.func167, Try.ntmps167
      go_wp2_with (first | ((with_reducible refine gate_dst (N := 2) rfl ?_); refine bxL 24 #[.int .i64 d, .int .i64 n, .slice A m c] HS ?_; clear HS; intro g_x w1 hg_x HS) | ((with_reducible refine gate_dst (N := 3) rfl ?_); refine bxL 24 #[.int .i64 d, .int .i64 n2, .slice A2 m2 c2] HS ?_; clear HS; intro g_y w1 hg_y HS; have f1_ := HS.out.c 1 0 (v := .int .i64 d) rfl rfl; have f2_ := HS.out.c 0 0 (v := .int .i64 d) rfl rfl; have f3_ := HS.out.c 1 1 (v := .int .i64 n) rfl rfl; have f4_ := HS.out.c 0 1 (v := .int .i64 n2) rfl rfl))
      go_ret
      exact ⟨ret_bool (by simp [h2]), HS.out.below⟩
  · have hb : (d == d2) = false := by simpa using h1
    go_enter Try.func167, Try.ntmps167
    go_wp2_with (first | ((with_reducible refine gate_dst (N := 2) rfl ?_); refine bxL 24 #[.int .i64 d, .int .i64 n, .slice A m c] HS ?_; clear HS; intro g_x w1 hg_x HS) | ((with_reducible refine gate_dst (N := 3) rfl ?_); refine bxL 24 #[.int .i64 d2, .int .i64 n2, .slice A2 m2 c2] HS ?_; clear HS; intro g_y w1 hg_y HS; have f1_ := HS.out.c 1 0 (v := .int .i64 d) rfl rfl; have f2_ := HS.out.c 0 0 (v := .int .i64 d2) rfl rfl))
    go_ret
    exact ⟨ret_bool (by simp [h1]), HS.out.below⟩
theorem implAlike (d n d2 n2 : Int) (A A2 : Option Addr) (m c m2 c2 : Nat) (w : World) : Calls Try.prog 170 #[.agg #[.int .i64 d, .int .i64 n, .slice A m c], .agg #[.int .i64 d2, .int .i64 n2, .slice A2 m2 c2]] w fun e w' => e = .returned (.bool (decide (d = d2 ∧ n = n2))) ∧ Below w.heap.size w w' := by
  have HS := Aside0.mk (Sep.refl w)
  by_cases h1 : d = d2
  · subst h1
    have hb : (d == d) = true := by simp
    by_cases h2 : n = n2
    · subst h2
      have hb2 : (n == n) = true := by simp
      go_enter Try.func170, Try.ntmps170
      go_wp2_with (first | ((with_reducible refine gate_dst (N := 2) rfl ?_); refine bxL 24 #[.int .i64 d, .int .i64 n, .slice A m c] HS ?_; clear HS; intro g_x w1 hg_x HS) | ((with_reducible refine gate_dst (N := 3) rfl ?_); refine bxL 24 #[.int .i64 d, .int .i64 n, .slice A2 m2 c2] HS ?_; clear HS; intro g_y w1 hg_y HS; have f1_ := HS.out.c 1 0 (v := .int .i64 d) rfl rfl; have f2_ := HS.out.c 0 0 (v := .int .i64 d) rfl rfl; have f3_ := HS.out.c 1 1 (v := .int .i64 n) rfl rfl; have f4_ := HS.out.c 0 1 (v := .int .i64 n) rfl rfl))
      go_ret
      exact ⟨ret_bool (by simp), HS.out.below⟩
    · have hb2 : (n == n2) = false := by simpa using h2
      go_enter Try.func170, Try.ntmps170
      go_wp2_with (first | ((with_reducible refine gate_dst (N := 2) rfl ?_); refine bxL 24 #[.int .i64 d, .int .i64 n, .slice A m c] HS ?_; clear HS; intro g_x w1 hg_x HS) | ((with_reducible refine gate_dst (N := 3) rfl ?_); refine bxL 24 #[.int .i64 d, .int .i64 n2, .slice A2 m2 c2] HS ?_; clear HS; intro g_y w1 hg_y HS; have f1_ := HS.out.c 1 0 (v := .int .i64 d) rfl rfl; have f2_ := HS.out.c 0 0 (v := .int .i64 d) rfl rfl; have f3_ := HS.out.c 1 1 (v := .int .i64 n) rfl rfl; have f4_ := HS.out.c 0 1 (v := .int .i64 n2) rfl rfl))
      go_ret
      exact ⟨ret_bool (by simp [h2]), HS.out.below⟩
  · have hb : (d == d2) = false := by simpa using h1
    go_enter Try.func170, Try.ntmps170
    go_wp2_with (first | ((with_reducible refine gate_dst (N := 2) rfl ?_); refine bxL 24 #[.int .i64 d, .int .i64 n, .slice A m c] HS ?_; clear HS; intro g_x w1 hg_x HS) | ((with_reducible refine gate_dst (N := 3) rfl ?_); refine bxL 24 #[.int .i64 d2, .int .i64 n2, .slice A2 m2 c2] HS ?_; clear HS; intro g_y w1 hg_y HS; have f1_ := HS.out.c 1 0 (v := .int .i64 d) rfl rfl; have f2_ := HS.out.c 0 0 (v := .int .i64 d2) rfl rfl))
    go_ret
    exact ⟨ret_bool (by simp [h1]), HS.out.below⟩
set_option maxHeartbeats 8000000 in
theorem specCode (d n : Int) (A : Option Addr) (c : Nat) (l : Ts) (d2 n2 : Int) (A2 : Option Addr) (c2 : Nat) (l2 : Ts) (q : Nat) (w : World) (hr : KT.C w A l.length l) (hc : l.length ≤ c) (hb : bnd l = true) (hr2 : KT.C w A2 l2.length l2) (hc2 : l2.length ≤ c2) (hb2 : bnd l2 = true)
    (hq : (bx q 24 #[.int .i64 d2, .int .i64 n2, .slice A2 l2.length c2]).I w) :
    Calls Try.prog 111 #[.agg #[.int .i64 d, .int .i64 n, .slice A l.length c], .slice (some ⟨q, 0, none⟩) 1 1] w fun e w' => e = .returned (.int .i64 (codeR d n l d2 n2 l2)) ∧ Below w.heap.size w w' := by
  have HR := Aside0.mk hr
  have HB := Aside0.mk hb
  have HR2 := Aside0.mk hr2
  have HB2 := Aside0.mk hb2
  have HQ := Aside0.mk hq
  have HS := Aside0.mk (Sep.refl w)
  clear hr hb hr2 hb2 hq
  cases h : isS d n l with
  | false =>
    rw [codeR_1 h]
    go_enter Try.func111, Try.ntmps111
    go_wp2_with (first | ((with_reducible refine gate_dst (N := 2) rfl ?_); refine bxL 24 #[.int .i64 d, .int .i64 n, .slice A l.length c] HS ?_; clear HS; intro g_x w1 hg_x HS; have f1_ := HS.out.c 0 0 (v := .int .i64 d) rfl rfl; have f2_ := HS.out.c 0 1 (v := .int .i64 n) rfl rfl; have f3_ := HS.out.c 0 2 (v := .slice A l.length c) rfl rfl) | (go_at_call 94; refine (specIs d n A c l _ (HS.out.oldC HR.out) hc HB.out).mono ?_; rintro e_ w1 ⟨rfl, hb⟩; replace HS := sB HS hb; clear hb f1_ f2_ f3_))
    go_ret
    exact ⟨rfl, HS.out.below⟩
  | true =>
    go_enter Try.func111, Try.ntmps111
    go_wp2_with (first | ((with_reducible refine gate_dst (N := 2) rfl ?_); refine bxL 24 #[.int .i64 d, .int .i64 n, .slice A l.length c] HS ?_; clear HS; intro g_x w1 hg_x HS; have f1_ := HS.out.c 0 0 (v := .int .i64 d) rfl rfl; have f2_ := HS.out.c 0 1 (v := .int .i64 n) rfl rfl; have f3_ := HS.out.c 0 2 (v := .slice A l.length c) rfl rfl) | (go_at_call 94; refine (specIs d n A c l _ (HS.out.oldC HR.out) hc HB.out).mono ?_; rintro e_ w1 ⟨rfl, hb⟩; replace HS := sB HS hb; clear hb f1_ f2_ f3_))
    go_loopw [5] (fun v w' => (v = .int .i64 0 ∨ v = .int .i64 1 ∧ Aside0 (isS d2 n2 l2 = true)) ∧ Aside0 (Mod w w' No [bx g_x 24 #[.int .i64 d, .int .i64 n, .slice A l.length c]])) (fun v _ => 1 - (intOf v).toNat)
    case atStart => exact ⟨.inl rfl, HS⟩
    case round =>
      clear HS
      obtain ⟨hv, HS⟩ := hrel
      rcases hv with rfl | ⟨rfl, H2⟩
      · skip
        cases h2 : isS d2 n2 l2 with
        | false =>
          have f1_ := bx_c (HS.out.oldI HQ.out) 0 rfl
          have f2_ := bx_c (HS.out.oldI HQ.out) 1 rfl
          have f3_ := bx_c (HS.out.oldI HQ.out) 2 rfl
          go_wp2_with (first | (go_at_call 94; refine (specIs d2 n2 A2 c2 l2 _ (HS.out.oldC HR2.out) hc2 HB2.out).mono ?_; rintro e_ w1 ⟨rfl, hb⟩; replace HS := sB HS hb; clear hb f1_ f2_ f3_))
          go_ret
          exact ⟨by rw [codeR_2 h h2]; rfl, HS.out.below⟩
        | true =>
          have f1_ := bx_c (HS.out.oldI HQ.out) 0 rfl
          have f2_ := bx_c (HS.out.oldI HQ.out) 1 rfl
          have f3_ := bx_c (HS.out.oldI HQ.out) 2 rfl
          go_wp2_with (first | (go_at_call 94; refine (specIs d2 n2 A2 c2 l2 _ (HS.out.oldC HR2.out) hc2 HB2.out).mono ?_; rintro e_ w1 ⟨rfl, hb⟩; replace HS := sB HS hb; clear hb f1_ f2_ f3_))
          go_roundw
          case rel => exact ⟨.inr ⟨by go_num, ⟨by first | trivial | exact h2⟩⟩, HS⟩
          case measure => simp [intOf]
      · have h2 := H2.out
        go_wp2
        go_loopw [6] (fun v w' => (v = .int .i64 0 ∨ v = .int .i64 1 ∧ Aside0 (decide (d = d2 ∧ n = n2) = true)) ∧ Aside0 (Mod w w' No [bx g_x 24 #[.int .i64 d, .int .i64 n, .slice A l.length c]])) (fun v _ => 1 - (intOf v).toNat)
        case atStart => exact ⟨.inl rfl, HS⟩
        case round =>
          clear HS
          obtain ⟨hv, HS⟩ := hrel
          rcases hv with rfl | ⟨rfl, H3⟩
          · skip
            cases h3 : decide (d = d2 ∧ n = n2) with
            | false =>
              go_wp2
              replace HS := sD HS
              refine ps (.p 1 (.p 2 (.p 3 (.t 0 (.t 4 (.d 5 (.p 6 .done))))))) (fun w' => w'.cell? ⟨g_x, 0, none⟩ = some (.int .i64 d) ∧ w'.cell? ⟨g_x, 1, none⟩ = some (.int .i64 n) ∧ w'.cell? ⟨g_x, 2, none⟩ = some (.slice A l.length c) ∧ w'.cell? ⟨q, 0, none⟩ = some (.int .i64 d2) ∧ w'.cell? ⟨q, 1, none⟩ = some (.int .i64 n2) ∧ w'.cell? ⟨q, 2, none⟩ = some (.slice A2 l2.length c2)) [5] ⟨HS.out.c 0 0 (v := .int .i64 d) rfl rfl, HS.out.c 0 1 (v := .int .i64 n) rfl rfl, HS.out.c 0 2 (v := .slice A l.length c) rfl rfl, bx_c (HS.out.oldI HQ.out) 0 rfl, bx_c (HS.out.oldI HQ.out) 1 rfl, bx_c (HS.out.oldI HQ.out) 2 rfl⟩ (fun hHeld => ?_)
              repeat (first | ((with_reducible refine gate_p ?_); refine rp rfl rfl ?_) | ((with_reducible refine gate_t ?_); refine rt rfl rfl hHeld ?_))
              refine run_d rfl (fun K hK => ?_)
              refine gc Try.func167 ((h3 ▸ specAlike d n d2 n2 A A2 l.length c l2.length c2 _ : Calls Try.prog 167 #[.agg #[.int .i64 d, .int .i64 n, .slice A l.length c], .agg #[.int .i64 d2, .int .i64 n2, .slice A2 l2.length c2]] _ fun e w' => e = .returned (.bool false) ∧ _)) rfl rfl ?_
              rintro e_ w1 ⟨rfl, hb⟩
              refine ⟨_, rfl, ?_⟩
              replace HS := sB HS hb
              clear hb
              refine gd hK ?_
              clear hK K
              repeat (first | ((with_reducible refine gate_p ?_); refine rp rfl rfl ?_) | ((with_reducible refine gate_t ?_); refine rt rfl rfl hHeld ?_))
              refine run_done ?_
              clear hHeld
              go_wp2
              go_ret
              exact ⟨by rw [codeR_3 h h2 h3]; rfl, HS.out.below⟩
            | true =>
              go_wp2
              replace HS := sD HS
              refine ps (.p 1 (.p 2 (.p 3 (.t 0 (.t 4 (.d 5 (.p 6 .done))))))) (fun w' => w'.cell? ⟨g_x, 0, none⟩ = some (.int .i64 d) ∧ w'.cell? ⟨g_x, 1, none⟩ = some (.int .i64 n) ∧ w'.cell? ⟨g_x, 2, none⟩ = some (.slice A l.length c) ∧ w'.cell? ⟨q, 0, none⟩ = some (.int .i64 d2) ∧ w'.cell? ⟨q, 1, none⟩ = some (.int .i64 n2) ∧ w'.cell? ⟨q, 2, none⟩ = some (.slice A2 l2.length c2)) [5] ⟨HS.out.c 0 0 (v := .int .i64 d) rfl rfl, HS.out.c 0 1 (v := .int .i64 n) rfl rfl, HS.out.c 0 2 (v := .slice A l.length c) rfl rfl, bx_c (HS.out.oldI HQ.out) 0 rfl, bx_c (HS.out.oldI HQ.out) 1 rfl, bx_c (HS.out.oldI HQ.out) 2 rfl⟩ (fun hHeld => ?_)
              repeat (first | ((with_reducible refine gate_p ?_); refine rp rfl rfl ?_) | ((with_reducible refine gate_t ?_); refine rt rfl rfl hHeld ?_))
              refine run_d rfl (fun K hK => ?_)
              refine gc Try.func167 ((h3 ▸ specAlike d n d2 n2 A A2 l.length c l2.length c2 _ : Calls Try.prog 167 #[.agg #[.int .i64 d, .int .i64 n, .slice A l.length c], .agg #[.int .i64 d2, .int .i64 n2, .slice A2 l2.length c2]] _ fun e w' => e = .returned (.bool true) ∧ _)) rfl rfl ?_
              rintro e_ w1 ⟨rfl, hb⟩
              refine ⟨_, rfl, ?_⟩
              replace HS := sB HS hb
              clear hb
              refine gd hK ?_
              clear hK K
              repeat (first | ((with_reducible refine gate_p ?_); refine rp rfl rfl ?_) | ((with_reducible refine gate_t ?_); refine rt rfl rfl hHeld ?_))
              refine run_done ?_
              clear hHeld
              go_wp2
              go_roundw
              case rel => exact ⟨.inr ⟨by go_num, ⟨by first | trivial | exact h3⟩⟩, HS⟩
              case measure => simp [intOf]
          · skip
            go_wp2
            go_ret
            exact ⟨by rw [codeR_4 h h2 H3.out]; rfl, HS.out.below⟩
set_option maxHeartbeats 8000000 in
theorem implCode (d n : Int) (A : Option Addr) (c : Nat) (l : Ts) (d2 n2 : Int) (A2 : Option Addr) (c2 : Nat) (l2 : Ts) (w : World) (hr : KT.C w A l.length l) (hc : l.length ≤ c) (hb : bnd l = true) (hr2 : KT.C w A2 l2.length l2) (hc2 : l2.length ≤ c2) (hb2 : bnd l2 = true) :
    Calls Try.prog 113 #[.agg #[.int .i64 d, .int .i64 n, .slice A l.length c], .agg #[.int .i64 d2, .int .i64 n2, .slice A2 l2.length c2]] w fun e w' => e = .returned (.int .i64 (codeR d n l d2 n2 l2)) ∧ Below w.heap.size w w' := by
  have HR := Aside0.mk hr
  have HB := Aside0.mk hb
  have HR2 := Aside0.mk hr2
  have HB2 := Aside0.mk hb2
  have HS := Aside0.mk (Sep.refl w)
  clear hr hb hr2 hb2
  cases h : isS d n l with
  | false =>
    rw [codeR_1 h]
    go_enter Try.func113, Try.ntmps113
    go_wp2_with (first | ((with_reducible refine gate_dst (N := 2) rfl ?_); refine bxL 24 #[.int .i64 d, .int .i64 n, .slice A l.length c] HS ?_; clear HS; intro g_x w1 hg_x HS) | ((with_reducible refine gate_dst (N := 3) rfl ?_); refine bxL 24 #[.int .i64 d2, .int .i64 n2, .slice A2 l2.length c2] HS ?_; clear HS; intro g_y w1 hg_y HS; have f1_ := HS.out.c 1 0 (v := .int .i64 d) rfl rfl; have f2_ := HS.out.c 1 1 (v := .int .i64 n) rfl rfl; have f3_ := HS.out.c 1 2 (v := .slice A l.length c) rfl rfl) | (go_at_call 98; refine (implIs d n A c l _ (HS.out.oldC HR.out) hc HB.out).mono ?_; rintro e_ w1 ⟨rfl, hb⟩; replace HS := sB HS hb; clear hb f1_ f2_ f3_))
    go_ret
    exact ⟨rfl, HS.out.below⟩
  | true =>
    cases h2 : isS d2 n2 l2 with
    | false =>
      rw [codeR_2 h h2]
      go_enter Try.func113, Try.ntmps113
      have tk1_ : True := trivial
      go_wp2_with (first | ((with_reducible refine gate_dst (N := 2) rfl ?_); refine bxL 24 #[.int .i64 d, .int .i64 n, .slice A l.length c] HS ?_; clear HS; intro g_x w1 hg_x HS) | ((with_reducible refine gate_dst (N := 3) rfl ?_); refine bxL 24 #[.int .i64 d2, .int .i64 n2, .slice A2 l2.length c2] HS ?_; clear HS; intro g_y w1 hg_y HS; have f1_ := HS.out.c 1 0 (v := .int .i64 d) rfl rfl; have f2_ := HS.out.c 1 1 (v := .int .i64 n) rfl rfl; have f3_ := HS.out.c 1 2 (v := .slice A l.length c) rfl rfl) | (go_at_call 98; clear tk1_; refine (implIs d n A c l _ (HS.out.oldC HR.out) hc HB.out).mono ?_; rintro e_ w1 ⟨rfl, hb⟩; replace HS := sB HS hb; clear hb f1_ f2_ f3_; have f1_ := HS.out.c 0 0 (v := .int .i64 d2) rfl rfl; have f2_ := HS.out.c 0 1 (v := .int .i64 n2) rfl rfl; have f3_ := HS.out.c 0 2 (v := .slice A2 l2.length c2) rfl rfl) | (go_at_call 98; refine (implIs d2 n2 A2 c2 l2 _ (HS.out.oldC HR2.out) hc2 HB2.out).mono ?_; rintro e_ w1 ⟨rfl, hb⟩; replace HS := sB HS hb; clear hb f1_ f2_ f3_))
      go_ret
      exact ⟨rfl, HS.out.below⟩
    | true =>
      have HC := Aside0.mk (fun W => implAlike d n d2 n2 A A2 l.length c l2.length c2 W)
      cases h3 : decide (d = d2 ∧ n = n2) with
      | false =>
        rw [codeR_3 h h2 h3]
        rw [h3] at HC
        clear h3
        go_enter Try.func113, Try.ntmps113
        have tk2_ : True := trivial
        go_wp2_with (first | ((with_reducible refine gate_dst (N := 2) rfl ?_); refine bxL 24 #[.int .i64 d, .int .i64 n, .slice A l.length c] HS ?_; clear HS; intro g_x w1 hg_x HS) | ((with_reducible refine gate_dst (N := 3) rfl ?_); refine bxL 24 #[.int .i64 d2, .int .i64 n2, .slice A2 l2.length c2] HS ?_; clear HS; intro g_y w1 hg_y HS; have f1_ := HS.out.c 1 0 (v := .int .i64 d) rfl rfl; have f2_ := HS.out.c 1 1 (v := .int .i64 n) rfl rfl; have f3_ := HS.out.c 1 2 (v := .slice A l.length c) rfl rfl) | (go_at_call 98; clear tk2_; refine (implIs d n A c l _ (HS.out.oldC HR.out) hc HB.out).mono ?_; rintro e_ w1 ⟨rfl, hb⟩; replace HS := sB HS hb; clear hb f1_ f2_ f3_; have f1_ := HS.out.c 0 0 (v := .int .i64 d2) rfl rfl; have f2_ := HS.out.c 0 1 (v := .int .i64 n2) rfl rfl; have f3_ := HS.out.c 0 2 (v := .slice A2 l2.length c2) rfl rfl) | (go_at_call 98; refine (implIs d2 n2 A2 c2 l2 _ (HS.out.oldC HR2.out) hc2 HB2.out).mono ?_; rintro e_ w1 ⟨rfl, hb⟩; replace HS := sB HS hb; clear hb f1_ f2_ f3_; have f1_ := HS.out.c 1 0 (v := .int .i64 d) rfl rfl; have f2_ := HS.out.c 1 1 (v := .int .i64 n) rfl rfl; have f3_ := HS.out.c 1 2 (v := .slice A l.length c) rfl rfl; have f4_ := HS.out.c 0 0 (v := .int .i64 d2) rfl rfl; have f5_ := HS.out.c 0 1 (v := .int .i64 n2) rfl rfl; have f6_ := HS.out.c 0 2 (v := .slice A2 l2.length c2) rfl rfl) | (go_at_call 170; refine (HC.out _).mono ?_; rintro e_ w1 ⟨rfl, hb⟩; replace HS := sB HS hb; clear hb f1_ f2_ f3_ f4_ f5_ f6_))
        go_ret
        exact ⟨rfl, HS.out.below⟩
      | true =>
        rw [codeR_4 h h2 h3]
        rw [h3] at HC
        clear h3
        go_enter Try.func113, Try.ntmps113
        have tk3_ : True := trivial
        go_wp2_with (first | ((with_reducible refine gate_dst (N := 2) rfl ?_); refine bxL 24 #[.int .i64 d, .int .i64 n, .slice A l.length c] HS ?_; clear HS; intro g_x w1 hg_x HS) | ((with_reducible refine gate_dst (N := 3) rfl ?_); refine bxL 24 #[.int .i64 d2, .int .i64 n2, .slice A2 l2.length c2] HS ?_; clear HS; intro g_y w1 hg_y HS; have f1_ := HS.out.c 1 0 (v := .int .i64 d) rfl rfl; have f2_ := HS.out.c 1 1 (v := .int .i64 n) rfl rfl; have f3_ := HS.out.c 1 2 (v := .slice A l.length c) rfl rfl) | (go_at_call 98; clear tk3_; refine (implIs d n A c l _ (HS.out.oldC HR.out) hc HB.out).mono ?_; rintro e_ w1 ⟨rfl, hb⟩; replace HS := sB HS hb; clear hb f1_ f2_ f3_; have f1_ := HS.out.c 0 0 (v := .int .i64 d2) rfl rfl; have f2_ := HS.out.c 0 1 (v := .int .i64 n2) rfl rfl; have f3_ := HS.out.c 0 2 (v := .slice A2 l2.length c2) rfl rfl) | (go_at_call 98; refine (implIs d2 n2 A2 c2 l2 _ (HS.out.oldC HR2.out) hc2 HB2.out).mono ?_; rintro e_ w1 ⟨rfl, hb⟩; replace HS := sB HS hb; clear hb f1_ f2_ f3_; have f1_ := HS.out.c 1 0 (v := .int .i64 d) rfl rfl; have f2_ := HS.out.c 1 1 (v := .int .i64 n) rfl rfl; have f3_ := HS.out.c 1 2 (v := .slice A l.length c) rfl rfl; have f4_ := HS.out.c 0 0 (v := .int .i64 d2) rfl rfl; have f5_ := HS.out.c 0 1 (v := .int .i64 n2) rfl rfl; have f6_ := HS.out.c 0 2 (v := .slice A2 l2.length c2) rfl rfl) | (go_at_call 170; refine (HC.out _).mono ?_; rintro e_ w1 ⟨rfl, hb⟩; replace HS := sB HS hb; clear hb f1_ f2_ f3_ f4_ f5_ f6_))
        go_ret
        exact ⟨rfl, HS.out.below⟩
end Go.Proofs.Ytaheikponfmdiaa.H
namespace Go.Proofs.Ytaheikponfmdiaa.M
def twoR (f : Nat → Nat → Ts → Ts → Option Ts) (d n : Int) (l : Ts) (d2 n2 : Int) (l2 : Ts) : Rs := if codeR d n l d2 n2 l2 = 0 then resO d n (f d.toNat n.toNat l l2) else noS (codeR d n l d2 n2 l2)
theorem two_len {f : Nat → Nat → Ts → Ts → Option Ts} (hf : ∀ d n x y, d ≤ 9 → isTs d n x = true → isTs d n y = true → ∃ F, Rel d n (f d n x y) F) {d n : Int} {l : Ts} {d2 n2 : Int} {l2 : Ts} : (twoR f d n l d2 n2 l2).2.2.1.length ≤ 1048576 := by
  unfold twoR
  split
  · rename_i h
    obtain ⟨h1, h2, h3, h4⟩ := codeR_zero h
    subst h3 h4
    obtain ⟨⟨e1, e2⟩, ⟨e3, e4⟩, _⟩ := lev_iff.1 (isS_l h1)
    obtain ⟨F, hF⟩ := hf d.toNat n.toNat l l2 (by omega) (isS_t h1) (isS_t h2)
    exact resO_len (by omega) (by omega) hF
  · show (0 : Nat) ≤ _; decide
end Go.Proofs.Ytaheikponfmdiaa.M

