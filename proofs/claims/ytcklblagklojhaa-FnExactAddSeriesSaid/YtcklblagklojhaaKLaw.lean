/- What the laws' own helpers return: copies, sizes, comparisons. Conditions: the bounds that stand in each statement. -/
import Derived.Test.YtcklblagklojhaaKRow
import Derived.Test.YtcklblagklojhaaKFrac
import Derived.WalkLawsBesides
namespace Go.Proofs.Ytcklblagklojhaa.H
open Go.RowKit Go.Proofs.YtcklblagklojhaaW.PrintWords Go.Proofs.YtcklblagklojhaaW.PrintLast Go.Proofs.YtcklblagklojhaaW.PrintMore Go.Proofs.Ytcklblagklojhaa.M
attribute [local go_sem] max2_int min2_int max_two min_two max_three min_three max_four min_four
set_option linter.unusedVariables false
set_option linter.unusedSimpArgs false
set_option maxRecDepth 100000
set_option maxHeartbeats 4000000 in
theorem lawSzTerm (s : ByteArray) (x y left : Int) (w : World) (hs : s.size ≤ 9223372036854775807) (h0 : 0 ≤ left) (h1 : left ≤ 1048576) (h : (s.size : Int) ≤ left) :
    Calls Try.prog 178 #[.agg #[.string s, .int .i64 x, .int .i64 y], .int .i64 left] w fun e w' => e = .returned (.int .i64 (left - s.size)) ∧ Below w.heap.size w w' := by
  have HS := Aside0.mk (Sep.refl w)
  have h2 : ¬ (left - (s.size : Int) < 0) := by omega
  go_enter Try.func178, Try.ntmps178
  go_wp2_with (first | ((with_reducible refine gate_dst (N := 2) rfl ?_); refine wpList_stp (fun K hK => ?_); refine stp_box (by rfl) HS (cs := #[.string s, .int .i64 x, .int .i64 y]) (t := 136) (by first | (go_simp; done) | (go_simp; rfl)) ?_; clear HS; intro g_a w1 hg_a HS; refine hK _ _ ?_; clear hK K; have f1_ := HS.out.c 0 0 (v := .string s) rfl rfl))
  go_ret
  exact ⟨rfl, HS.out.below⟩
set_option maxHeartbeats 4000000 in
theorem lawSzTermN (s : ByteArray) (x y left : Int) (w : World) (hs : s.size ≤ 9223372036854775807) (h0 : 0 ≤ left) (h1 : left ≤ 1048576) (h : ¬ (s.size : Int) ≤ left) :
    Calls Try.prog 178 #[.agg #[.string s, .int .i64 x, .int .i64 y], .int .i64 left] w fun e w' => e = .returned (.int .i64 (-1)) ∧ Below w.heap.size w w' := by
  have HS := Aside0.mk (Sep.refl w)
  have h2 : left - (s.size : Int) < 0 := by omega
  go_enter Try.func178, Try.ntmps178
  go_wp2_with (first | ((with_reducible refine gate_dst (N := 2) rfl ?_); refine wpList_stp (fun K hK => ?_); refine stp_box (by rfl) HS (cs := #[.string s, .int .i64 x, .int .i64 y]) (t := 136) (by first | (go_simp; done) | (go_simp; rfl)) ?_; clear HS; intro g_a w1 hg_a HS; refine hK _ _ ?_; clear hK K; have f1_ := HS.out.c 0 0 (v := .string s) rfl rfl))
  go_ret
  exact ⟨rfl, HS.out.below⟩
/-- What szTermS tells. -/
def SzR (l : Ts) (left : Int) (w : World) (e : Ending) (w' : World) : Prop := ∃ v : Int, e = .returned (.int .i64 v) ∧ v ≤ left ∧ -1 ≤ v ∧ (0 ≤ v → bnd l = true) ∧ Below w.heap.size w w'
set_option maxHeartbeats 4000000 in
theorem lawSzTermS (A : Option Addr) (c : Nat) (l : Ts) (left : Int) (w : World) (hr : KT.C w A l.length l) (hm : l.length ≤ 9223372036854775807) (hz : ∀ t ∈ l, t.1.size ≤ 9223372036854775807) (h0 : 0 ≤ left) (h1 : left ≤ 1048576) :
    Calls Try.prog 108 #[.slice A l.length c, .int .i64 left] w (SzR l left w) := by
  have HR := Aside0.mk hr
  have HZ := Aside0.mk hz
  have HS := Aside0.mk (Sep.refl w)
  clear hr hz
  by_cases h : (l.length : Int) ≤ left
  · have h2 : ¬ (left - (l.length : Int) < 0) := by omega
    go_enter Try.func108, Try.ntmps108
    go_wp2
    go_loopw [1, 5] (fun x v w' => ∃ (k : Nat) (m : Int), k ≤ l.length ∧ v = .int .i64 (k : Int) ∧ x = .int .i64 m ∧ 0 ≤ m ∧ m ≤ left - l.length ∧ Aside0 (∀ j, j < k → (l.getD j zT).1.size ≤ 1048576) ∧ Aside0 (Mod w w' No [])) (fun _ v _ => l.length - (intOf v).toNat)
    case atStart => exact ⟨0, left - l.length, by omega, rfl, rfl, by omega, by omega, ⟨fun j hj => by omega⟩, HS⟩
    case round =>
      clear HS
      obtain ⟨k, m, hk, rfl, rfl, hm0, hm1, HY, HS⟩ := hrel
      by_cases hlt : k < l.length
      · have hs1 : (l.getD k zT).1.size ≤ 9223372036854775807 := by rw [getD_lt l zT k hlt]; exact HZ.out _ (List.getElem_mem _)
        obtain ⟨ad_A, ea_, h0_, h1_, h2_⟩ := tm_at HR.out k (hlt)
        cases ea_
        obtain ⟨t, ht_⟩ : ∃ t_, t_ = l.getD k zT := ⟨_, rfl⟩
        rw [← ht_] at h0_ h1_ h2_
        have Et := Aside0.mk ht_; have H0t := Aside0.mk h0_; have H1t := Aside0.mk h1_; have H2t := Aside0.mk h2_
        clear ht_ h0_ h1_ h2_
        rw [← Et.out] at hs1
        by_cases h3 : (t.1.size : Int) ≤ m
        · skip
          have h4 : ¬ (m - (t.1.size : Int) < 0) := by omega
          have f1_ := HS.out.old H0t.out
          have f2_ := HS.out.old H1t.out
          have f3_ := HS.out.old H2t.out
          go_wp2_with (first | (go_at_call 178; refine (lawSzTerm _ _ _ _ _ hs1 (by omega) (by omega) h3).mono ?_; rintro e_ w1 ⟨rfl, hb⟩; have n_ := Aside0.mk (HS.out.call hb); clear HS f1_ f2_ f3_ hb; have HS := n_; clear n_))
          go_roundw
          case rel => exact ⟨k + 1, m - t.1.size, by omega, by go_num, rfl, by omega, by omega, ⟨round_next HY.out (by rw [← Et.out]; omega)⟩, HS⟩
          case measure => simp [intOf]; omega
        · skip
          have f1_ := HS.out.old H0t.out
          have f2_ := HS.out.old H1t.out
          have f3_ := HS.out.old H2t.out
          go_wp2_with (first | (go_at_call 178; refine (lawSzTermN _ _ _ _ _ hs1 (by omega) (by omega) h3).mono ?_; rintro e_ w1 ⟨rfl, hb⟩; have n_ := Aside0.mk (HS.out.call hb); clear HS f1_ f2_ f3_ hb; have HS := n_; clear n_))
          refine bodyPost_ret (results_tmp (by rfl) _ _ _) rfl ?_
          exact ⟨-1, rfl, by omega, by omega, fun h => by omega, HS.out.below⟩
      · have HB := Aside0.mk (show bnd l = true from bnd_iff.2 ⟨by omega, fun t ht => by
          obtain ⟨j, hj, rfl⟩ := List.getElem_of_mem ht
          have := HY.out j (by omega)
          rwa [getD_lt l zT j hj] at this⟩)
        go_wp2
        refine bodyPost_ret (results_tmp (by rfl) _ _ _) rfl ?_
        exact ⟨m, rfl, by omega, by omega, fun _ => HB.out, HS.out.below⟩
  · have h2 : left - (l.length : Int) < 0 := by omega
    go_enter Try.func108, Try.ntmps108
    go_wp2
    refine bodyPost_ret (results_tmp (by rfl) _ _ _) rfl ?_
    exact ⟨-1, rfl, by omega, by omega, fun h => by omega, HS.out.below⟩
theorem lawFraction (x y : Int) (w : World) : Calls Try.prog 31 #[.agg #[.int .i64 x, .int .i64 y]] w fun e w' => e = .returned (.agg #[.int .i64 x, .int .i64 y]) ∧ Below w.heap.size w w' := by
  have HS := Aside0.mk (Sep.refl w)
  go_enter Try.func31, Try.ntmps31
  go_wp2_with (first | ((with_reducible refine gate_dst (N := 1) rfl ?_); refine wpList_stp (fun K hK => ?_); refine stp_box (by rfl) HS (cs := #[.int .i64 x, .int .i64 y]) (t := 23) (by first | (go_simp; done) | (go_simp; rfl)) ?_; clear HS; intro g_a w1 hg_a HS; refine hK _ _ ?_; clear hK K) | ((with_reducible refine gate_dst (N := 2) rfl ?_); refine wpList_stp (fun K hK => ?_); refine stp_box (by rfl) HS (cs := #[(.int .i64 0), (.int .i64 0)]) (t := 24) (by first | (go_simp; done) | (go_simp; rfl)) ?_; clear HS; intro g_r w1 hg_r HS; refine hK _ _ ?_; clear hK K) | ((with_reducible refine gate_dst (N := 3) rfl ?_); refine wpList_stp (fun K hK => ?_); refine stp_box (by rfl) HS (cs := #[(.int .i64 0), (.int .i64 0)]) (t := 24) (by first | (go_simp; done) | (go_simp; rfl)) ?_; clear HS; intro g_o w1 hg_o HS; refine hK _ _ ?_; clear hK K; have f1_ := HS.out.c 2 0 (v := .int .i64 x) rfl rfl) | ((with_reducible refine gate_store (t := 2) (p := 6) rfl ?_); refine wpList_stp (fun K hK => ?_); refine stp_set (by rfl) rfl rfl HS 0 0 (cs' := #[(.int .i64 x), (.int .i64 0)]) rfl rfl rfl (by kernel_rfl) rfl rfl ?_; clear HS f1_; intro w1 HS; simp only [List.set_cons_zero, List.set_cons_succ] at HS; refine hK _ _ ?_; clear hK K; have f1_ := HS.out.c 2 1 (v := .int .i64 y) rfl rfl) | ((with_reducible refine gate_store (t := 2) (p := 9) rfl ?_); refine wpList_stp (fun K hK => ?_); refine stp_set (by rfl) rfl rfl HS 0 1 (cs' := #[(.int .i64 x), (.int .i64 y)]) rfl rfl rfl (by kernel_rfl) rfl rfl ?_; clear HS f1_; intro w1 HS; simp only [List.set_cons_zero, List.set_cons_succ] at HS; refine hK _ _ ?_; clear hK K; have f1_ := HS.out.c 0 0 (v := (.int .i64 x)) rfl rfl; have f2_ := HS.out.c 0 1 (v := (.int .i64 y)) rfl rfl) | ((with_reducible refine gate_store (t := 24) (p := 2) rfl ?_); refine wpList_stp (fun K hK => ?_); refine stp_set (by rfl) rfl rfl HS 1 0 (cs' := #[(.int .i64 x), (.int .i64 y)]) rfl rfl rfl (by kernel_rfl) rfl rfl ?_; clear HS f1_ f2_; intro w1 HS; simp only [List.set_cons_zero, List.set_cons_succ] at HS; refine hK _ _ ?_; clear hK K))
  refine bodyPost_ret (results_cell_row rfl _ _ g_r 24 #[(.int .i64 x), (.int .i64 y)] (0, 0) _ rfl (HS.out.at (i := 1) rfl) Try.underlying24 rfl (by kernel_rfl)) rfl ?_
  exact ⟨rfl, HS.out.below⟩
set_option maxHeartbeats 4000000 in
theorem lawTerm (s : ByteArray) (x y : Int) (w : World) : Calls Try.prog 180 #[.agg #[.string s, .int .i64 x, .int .i64 y]] w fun e w' => e = .returned (.agg #[.string s, .int .i64 x, .int .i64 y]) ∧ Below w.heap.size w w' := by
  have HS := Aside0.mk (Sep.refl w)
  go_enter Try.func180, Try.ntmps180
  go_wp2_with (first | ((with_reducible refine gate_dst (N := 1) rfl ?_); refine wpList_stp (fun K hK => ?_); refine stp_box (by rfl) HS (cs := #[.string s, .int .i64 x, .int .i64 y]) (t := 136) (by first | (go_simp; done) | (go_simp; rfl)) ?_; clear HS; intro g_a w1 hg_a HS; refine hK _ _ ?_; clear hK K) | ((with_reducible refine gate_dst (N := 2) rfl ?_); refine wpList_stp (fun K hK => ?_); refine stp_box (by rfl) HS (cs := #[(.string ⟨#[]⟩), (.int .i64 0), (.int .i64 0)]) (t := 77) (by first | (go_simp; done) | (go_simp; rfl)) ?_; clear HS; intro g_r w1 hg_r HS; refine hK _ _ ?_; clear hK K) | ((with_reducible refine gate_dst (N := 3) rfl ?_); refine wpList_stp (fun K hK => ?_); refine stp_box (by rfl) HS (cs := #[(.string ⟨#[]⟩), (.int .i64 0), (.int .i64 0)]) (t := 77) (by first | (go_simp; done) | (go_simp; rfl)) ?_; clear HS; intro g_o w1 hg_o HS; refine hK _ _ ?_; clear hK K; have f1_ := HS.out.c 2 0 (v := .string s) rfl rfl) | ((with_reducible refine gate_store (t := 9) (p := 6) rfl ?_); refine wpList_stp (fun K hK => ?_); refine stp_set (by rfl) rfl rfl HS 0 0 (cs' := #[(.string s), (.int .i64 0), (.int .i64 0)]) rfl rfl rfl (by kernel_rfl) rfl rfl ?_; clear HS f1_; intro w1 HS; simp only [List.set_cons_zero, List.set_cons_succ] at HS; refine hK _ _ ?_; clear hK K; have f1_ := HS.out.c 2 1 (v := .int .i64 x) rfl rfl; have f2_ := HS.out.c 2 2 (v := .int .i64 y) rfl rfl) | (go_at_call 31; refine (lawFraction _ _ _).mono ?_; rintro e_ w1 ⟨rfl, hb⟩; have n_ := Aside0.mk (HS.out.call hb); clear HS f1_ f2_ hb; have HS := n_; clear n_) | ((with_reducible refine gate_store (t := 24) (p := 10) rfl ?_); refine wpList_stp (fun K hK => ?_); refine stp_set (by rfl) rfl rfl HS 0 1 (cs' := #[(.string s), .int .i64 x, .int .i64 y]) rfl rfl rfl (by kernel_rfl) rfl rfl ?_; clear HS; intro w1 HS; simp only [List.set_cons_zero, List.set_cons_succ] at HS; refine hK _ _ ?_; clear hK K; have f1_ := HS.out.c 0 0 (v := (.string s)) rfl rfl; have f2_ := HS.out.c 0 1 (v := .int .i64 x) rfl rfl; have f3_ := HS.out.c 0 2 (v := .int .i64 y) rfl rfl) | ((with_reducible refine gate_store (t := 77) (p := 2) rfl ?_); refine wpList_stp (fun K hK => ?_); refine stp_set (by rfl) rfl rfl HS 1 0 (cs' := #[(.string s), .int .i64 x, .int .i64 y]) rfl rfl rfl (by kernel_rfl) rfl rfl ?_; clear HS f1_ f2_ f3_; intro w1 HS; simp only [List.set_cons_zero, List.set_cons_succ] at HS; refine hK _ _ ?_; clear hK K))
  refine bodyPost_ret (results_cell_row rfl _ _ g_r 77 #[(.string s), .int .i64 x, .int .i64 y] (0, 0) _ rfl (HS.out.at (i := 1) rfl) Try.underlying77 rfl (by kernel_rfl)) rfl ?_
  exact ⟨rfl, HS.out.below⟩
theorem list_done {l y : Ts} (hl : y.length = l.length) (h : ∀ j, j < l.length → y.getD j zT = l.getD j zT) : y = l := by
  apply List.ext_getElem hl
  intro j h1 h2
  have := h j h2
  rwa [getD_lt _ _ _ h1, getD_lt _ _ _ h2] at this
theorem getD_set {l : Ts} {k j : Nat} {t : Tm} (hk : k < l.length) : (l.set k t).getD j zT = if j = k then t else l.getD j zT := by
  rw [List.getD_eq_getElem?_getD, List.getD_eq_getElem?_getD, List.getElem?_set]
  by_cases h : k = j
  · subst h; simp [hk]
  · rw [if_neg h, if_neg (Ne.symm h)]
set_option maxHeartbeats 8000000 in
theorem lawTermS (A : Option Addr) (c : Nat) (l : Ts) (w : World) (hr : KT.C w A l.length l) (hm : l.length ≤ 1048576) :
    Calls Try.prog 110 #[.slice A l.length c] w fun e w' => ∃ A' c', e = .returned (.slice A' l.length c') ∧ Sep w w' [rw' KT rfl 77 (.slice A' l.length c') l] := by
  have HR := Aside0.mk hr
  have HS := Aside0.mk (Sep.refl w)
  clear hr
  go_enter Try.func110, Try.ntmps110
  go_wp2_with (first | ((with_reducible refine gate_dst (N := 7) rfl ?_); refine wpList_stp (fun K hK => ?_); refine stp_make (KT) rfl 77 (by rfl) HS rfl 30 _ _ rfl l.length rfl rfl Try.underlying30 _ 32 infoTerm rfl zT (KT_M zT) (by omega) ?_; clear HS; intro A_o c_o w1 HS; refine hK _ _ ?_; clear hK K))
  by_cases hz : l.length = 0
  · have he : List.replicate l.length zT = l := by rw [List.eq_nil_of_length_eq_zero hz]; rfl
    rw [he] at HS
    have hn : ¬ (0 < l.length) := by omega
    clear hz he
    go_loopw [4] (fun v w' => v = .int .i64 0 ∧ Aside0 (Mod w w' No [rw' KT rfl 77 (.slice A_o l.length c_o) l])) (fun v _ => 0)
    case atStart => exact ⟨rfl, HS⟩
    case round =>
      clear HS
      obtain ⟨rfl, HS⟩ := hrel
      go_wp2
      go_ret
      exact ⟨A_o, c_o, rfl, HS.out⟩
  · obtain ⟨g_o, sp, rfl, hI, hlen, hcm⟩ := R_tr (HS.out.rowAt 0 rfl) (by simp) (by simp; omega)
    have n_ := Aside0.mk (HS.out.asBlock (i := 0) rfl hI)
    clear HS hI
    have HS := n_
    clear n_
    simp only [List.set_cons_zero] at HS
    have HC := Aside0.mk hlen
    clear hlen hz
    go_loopw [4] (fun v w' => ∃ (k : Nat) (y : Ts), k ≤ l.length ∧ v = .int .i64 (k : Int) ∧ y.length = l.length ∧ Aside0 (∀ j, j < k → y.getD j zT = l.getD j zT) ∧ Aside0 (Mod w w' No [tr g_o 77 y sp])) (fun v _ => l.length - (intOf v).toNat)
    case atStart => exact ⟨0, _, by omega, rfl, by simp, ⟨fun j hj => by omega⟩, HS⟩
    case round =>
      clear HS
      obtain ⟨k, y, hk, rfl, hy, HY, HS⟩ := hrel
      by_cases hlt : k < l.length
      · skip
        obtain ⟨ad_A, ea_, h0_, h1_, h2_⟩ := tm_at HR.out k (hlt)
        cases ea_
        obtain ⟨t, ht_⟩ : ∃ t_, t_ = l.getD k zT := ⟨_, rfl⟩
        rw [← ht_] at h0_ h1_ h2_
        have Et := Aside0.mk ht_; have H0t := Aside0.mk h0_; have H1t := Aside0.mk h1_; have H2t := Aside0.mk h2_
        clear ht_ h0_ h1_ h2_
        have hky : k < y.length := by omega
        obtain ⟨y', hy'⟩ : ∃ y', y' = y.set k t := ⟨_, rfl⟩
        have HY' := Aside0.mk hy'
        have hyl : y'.length = l.length := by rw [hy', List.length_set]; exact hy
        clear hy'
        have f1_ := HS.out.old H0t.out
        have f2_ := HS.out.old H1t.out
        have f3_ := HS.out.old H2t.out
        go_wp2_with (first | (go_at_call 180; refine (lawTerm _ _ _ _).mono ?_; rintro e_ w1 ⟨rfl, hb⟩; have n_ := Aside0.mk (HS.out.call hb); clear HS f1_ f2_ f3_ hb; have HS := n_; clear n_) | ((with_reducible refine gate_store (t := 77) (p := 21) rfl ?_); refine wpList_stp (fun K hK => ?_); refine stp_put_term (by rfl) rfl rfl HS 0 rfl k hky t rfl rfl (by kernel_rfl) ?_; clear HS; intro w1 HS; simp only [List.set_cons_zero] at HS; rw [← HY'.out] at HS; refine hK _ _ ?_; clear hK K))
        go_roundw
        case rel => exact ⟨k + 1, y', by omega, by go_num, hyl, ⟨round_next (fun j hj => by rw [HY'.out, getD_set hky, if_neg (by omega)]; exact HY.out j hj) (by rw [HY'.out, getD_set hky, if_pos rfl, Et.out])⟩, HS⟩
        case measure => simp [intOf]; omega
      · obtain rfl : y = l := list_done hy (fun j hj => HY.out j (by omega))
        go_wp2
        go_ret
        exact ⟨_, c_o, rfl, (HS.out.asRow (i := 0) rfl (cap := c_o) (by have := HC.out; rw [List.length_append, flat_length] at this ⊢; rw [List.length_replicate] at this; omega) hcm)⟩
end Go.Proofs.Ytcklblagklojhaa.H

