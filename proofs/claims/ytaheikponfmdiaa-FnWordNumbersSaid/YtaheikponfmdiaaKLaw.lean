/- What the laws' own helpers return: copies, sizes, comparisons. Conditions: the bounds that stand in each statement. -/
import Derived.Test.YtaheikponfmdiaaKRow
import Derived.Test.YtaheikponfmdiaaKFrac
import Derived.WalkLawsBesides
import Derived.Test.YtaheikponfmdiaaKLeaf
namespace Go.Proofs.Ytaheikponfmdiaa.H
open Go.RowKit Go.Proofs.YtaheikponfmdiaaW.PrintWords Go.Proofs.YtaheikponfmdiaaW.PrintLast Go.Proofs.YtaheikponfmdiaaW.PrintMore Go.Proofs.Ytaheikponfmdiaa.M
attribute [local go_sem] max2_int min2_int max_two min_two max_three min_three max_four min_four
set_option linter.unusedVariables false
set_option linter.unusedSimpArgs false
set_option maxRecDepth 100000
set_option maxHeartbeats 4000000 in
theorem lawSzTerm (s : ByteArray) (x y left : Int) (w : World) (hs : s.size ≤ 9223372036854775807) (h0 : 0 ≤ left) (h1 : left ≤ 1048576) (h : (s.size : Int) ≤ left) :
    Calls Try.prog 158 #[.agg #[.string s, .int .i64 x, .int .i64 y], .int .i64 left] w fun e w' => e = .returned (.int .i64 (left - s.size)) ∧ Below w.heap.size w w' := by
  have HS := Aside0.mk (Sep.refl w)
  have h2 : ¬ (left - (s.size : Int) < 0) := by omega
  go_enter Try.func158, Try.ntmps158
  go_wp2_with (first | ((with_reducible refine gate_dst (N := 2) rfl ?_); refine bxL 143 #[.string s, .int .i64 x, .int .i64 y] HS ?_; clear HS; intro g_a w1 hg_a HS; have f1_ := HS.out.c 0 0 (v := .string s) rfl rfl))
  go_ret
  exact ⟨rfl, HS.out.below⟩
set_option maxHeartbeats 4000000 in
theorem lawSzTermN (s : ByteArray) (x y left : Int) (w : World) (hs : s.size ≤ 9223372036854775807) (h0 : 0 ≤ left) (h1 : left ≤ 1048576) (h : ¬ (s.size : Int) ≤ left) :
    Calls Try.prog 158 #[.agg #[.string s, .int .i64 x, .int .i64 y], .int .i64 left] w fun e w' => e = .returned (.int .i64 (-1)) ∧ Below w.heap.size w w' := by
  have HS := Aside0.mk (Sep.refl w)
  have h2 : left - (s.size : Int) < 0 := by omega
  go_enter Try.func158, Try.ntmps158
  go_wp2_with (first | ((with_reducible refine gate_dst (N := 2) rfl ?_); refine bxL 143 #[.string s, .int .i64 x, .int .i64 y] HS ?_; clear HS; intro g_a w1 hg_a HS; have f1_ := HS.out.c 0 0 (v := .string s) rfl rfl))
  go_ret
  exact ⟨rfl, HS.out.below⟩
/-- What szTermS tells. -/
def SzR (l : Ts) (left : Int) (w : World) (e : Ending) (w' : World) : Prop := ∃ v : Int, e = .returned (.int .i64 v) ∧ v ≤ left ∧ -1 ≤ v ∧ (0 ≤ v → bnd l = true) ∧ Below w.heap.size w w'
set_option maxHeartbeats 4000000 in
theorem lawSzTermS (A : Option Addr) (c : Nat) (l : Ts) (left : Int) (w : World) (hr : KT.C w A l.length l) (hm : l.length ≤ 9223372036854775807) (hz : ∀ t ∈ l, t.1.size ≤ 9223372036854775807) (h0 : 0 ≤ left) (h1 : left ≤ 1048576) :
    Calls Try.prog 93 #[.slice A l.length c, .int .i64 left] w (SzR l left w) := by
  have HR := Aside0.mk hr
  have HZ := Aside0.mk hz
  have HS := Aside0.mk (Sep.refl w)
  clear hr hz
  by_cases h : (l.length : Int) ≤ left
  · have h2 : ¬ (left - (l.length : Int) < 0) := by omega
    go_enter Try.func93, Try.ntmps93
    go_wp2
    go_loopw [1, 5] (fun x v w' => ∃ (k : Nat) (m : Int), k ≤ l.length ∧ v = .int .i64 (k : Int) ∧ x = .int .i64 m ∧ 0 ≤ m ∧ m ≤ left - l.length ∧ Aside0 (∀ j, j < k → (l.getD j zT).1.size ≤ 1048576) ∧ Aside0 (Mod w w' No [])) (fun _ v _ => l.length - (intOf v).toNat)
    case atStart => exact ⟨0, left - l.length, by omega, rfl, rfl, by omega, by omega, ⟨fun j hj => by omega⟩, HS⟩
    case round =>
      clear HS
      obtain ⟨k, m, hk, rfl, rfl, hm0, hm1, HY, HS⟩ := hrel
      by_cases hlt : k < l.length
      · have hs1 : (l.getD k zT).1.size ≤ 9223372036854775807 := by rw [getD_lt l zT k hlt]; exact HZ.out _ (List.getElem_mem _)
        obtain ⟨ad_A, ea_, h0_, h1_, h2_⟩ := tm_at HR.out k (hlt)
        cases ea_
        obtain ⟨t, ht_⟩ : ∃ t_, t_ = l.getD k zT := ⟨_, rfl⟩
        rw [← ht_] at h0_ h1_ h2_
        have Et := Aside0.mk ht_; have H0t := Aside0.mk h0_; have H1t := Aside0.mk h1_; have H2t := Aside0.mk h2_
        clear ht_ h0_ h1_ h2_
        rw [← Et.out] at hs1
        by_cases h3 : (t.1.size : Int) ≤ m
        · skip
          have h4 : ¬ (m - (t.1.size : Int) < 0) := by omega
          have f1_ := HS.out.old H0t.out
          have f2_ := HS.out.old H1t.out
          have f3_ := HS.out.old H2t.out
          go_wp2_with (first | (go_at_call 158; refine (lawSzTerm _ _ _ _ _ hs1 (by omega) (by omega) h3).mono ?_; rintro e_ w1 ⟨rfl, hb⟩; replace HS := sB HS hb; clear hb f1_ f2_ f3_))
          go_roundw
          case rel => exact ⟨k + 1, m - t.1.size, by omega, by go_num, rfl, by omega, by omega, ⟨round_next HY.out (by rw [← Et.out]; omega)⟩, HS⟩
          case measure => simp [intOf]; omega
        · skip
          have f1_ := HS.out.old H0t.out
          have f2_ := HS.out.old H1t.out
          have f3_ := HS.out.old H2t.out
          go_wp2_with (first | (go_at_call 158; refine (lawSzTermN _ _ _ _ _ hs1 (by omega) (by omega) h3).mono ?_; rintro e_ w1 ⟨rfl, hb⟩; replace HS := sB HS hb; clear hb f1_ f2_ f3_))
          refine bodyPost_ret (results_tmp (by rfl) _ _ _) rfl ?_
          exact ⟨-1, rfl, by omega, by omega, fun h => by omega, HS.out.below⟩
      · have HB := Aside0.mk (show bnd l = true from bnd_iff.2 ⟨by omega, fun t ht => by
          obtain ⟨j, hj, rfl⟩ := List.getElem_of_mem ht
          have := HY.out j (by omega)
          rwa [getD_lt l zT j hj] at this⟩)
        go_wp2
        refine bodyPost_ret (results_tmp (by rfl) _ _ _) rfl ?_
        exact ⟨m, rfl, by omega, by omega, fun _ => HB.out, HS.out.below⟩
  · have h2 : left - (l.length : Int) < 0 := by omega
    go_enter Try.func93, Try.ntmps93
    go_wp2
    refine bodyPost_ret (results_tmp (by rfl) _ _ _) rfl ?_
    exact ⟨-1, rfl, by omega, by omega, fun h => by omega, HS.out.below⟩
theorem lawFraction (x y : Int) (w : World) : Calls Try.prog 190 #[.agg #[.int .i64 x, .int .i64 y]] w fun e w' => e = .returned (.agg #[.int .i64 x, .int .i64 y]) ∧ Below w.heap.size w w' := by
  have HS := Aside0.mk (Sep.refl w)
  go_enter Try.func190, Try.ntmps190
  go_wp2_with (first | ((with_reducible refine gate_dst (N := 1) rfl ?_); refine bxL 141 #[.int .i64 x, .int .i64 y] HS ?_; clear HS; intro g_a w1 hg_a HS) | ((with_reducible refine gate_dst (N := 2) rfl ?_); refine bxL 35 #[(.int .i64 0), (.int .i64 0)] HS ?_; clear HS; intro g_r w1 hg_r HS) | ((with_reducible refine gate_dst (N := 3) rfl ?_); refine bxL 35 #[(.int .i64 0), (.int .i64 0)] HS ?_; clear HS; intro g_o w1 hg_o HS; have f1_ := HS.out.c 2 0 (v := .int .i64 x) rfl rfl) | ((with_reducible refine gate_store (t := 2) (p := 6) rfl ?_); refine stL HS 0 0 #[(.int .i64 x), (.int .i64 0)] rfl rfl rfl rfl rfl ?_; clear HS f1_; intro w1 HS; have f1_ := HS.out.c 2 1 (v := .int .i64 y) rfl rfl) | ((with_reducible refine gate_store (t := 2) (p := 9) rfl ?_); refine stL HS 0 1 #[(.int .i64 x), (.int .i64 y)] rfl rfl rfl rfl rfl ?_; clear HS f1_; intro w1 HS; have f1_ := HS.out.c 0 0 (v := (.int .i64 x)) rfl rfl; have f2_ := HS.out.c 0 1 (v := (.int .i64 y)) rfl rfl) | ((with_reducible refine gate_store (t := 35) (p := 2) rfl ?_); refine stL HS 1 0 #[(.int .i64 x), (.int .i64 y)] rfl rfl rfl rfl rfl ?_; clear HS f1_ f2_; intro w1 HS))
  refine bodyPost_ret (results_cell_row rfl _ _ g_r 35 #[(.int .i64 x), (.int .i64 y)] (0, 0) _ rfl (HS.out.at (i := 1) rfl) Try.underlying35 rfl (by kernel_rfl)) rfl ?_
  exact ⟨rfl, HS.out.below⟩
set_option maxHeartbeats 4000000 in
theorem lawTerm (s : ByteArray) (x y : Int) (w : World) : Calls Try.prog 163 #[.agg #[.string s, .int .i64 x, .int .i64 y]] w fun e w' => e = .returned (.agg #[.string s, .int .i64 x, .int .i64 y]) ∧ Below w.heap.size w w' := by
  have HS := Aside0.mk (Sep.refl w)
  go_enter Try.func163, Try.ntmps163
  go_wp2_with (first | ((with_reducible refine gate_dst (N := 1) rfl ?_); refine bxL 143 #[.string s, .int .i64 x, .int .i64 y] HS ?_; clear HS; intro g_a w1 hg_a HS) | ((with_reducible refine gate_dst (N := 2) rfl ?_); refine bxL 66 #[(.string ⟨#[]⟩), (.int .i64 0), (.int .i64 0)] HS ?_; clear HS; intro g_r w1 hg_r HS) | ((with_reducible refine gate_dst (N := 3) rfl ?_); refine bxL 66 #[(.string ⟨#[]⟩), (.int .i64 0), (.int .i64 0)] HS ?_; clear HS; intro g_o w1 hg_o HS; have f1_ := HS.out.c 2 0 (v := .string s) rfl rfl) | ((with_reducible refine gate_store (t := 9) (p := 6) rfl ?_); refine stL HS 0 0 #[(.string s), (.int .i64 0), (.int .i64 0)] rfl rfl rfl rfl rfl ?_; clear HS f1_; intro w1 HS; have f1_ := HS.out.c 2 1 (v := .int .i64 x) rfl rfl; have f2_ := HS.out.c 2 2 (v := .int .i64 y) rfl rfl) | (go_at_call 190; refine (lawFraction _ _ _).mono ?_; rintro e_ w1 ⟨rfl, hb⟩; replace HS := sB HS hb; clear hb f1_ f2_) | ((with_reducible refine gate_store (t := 35) (p := 10) rfl ?_); refine stL HS 0 1 #[(.string s), .int .i64 x, .int .i64 y] rfl rfl rfl rfl rfl ?_; clear HS; intro w1 HS; have f1_ := HS.out.c 0 0 (v := (.string s)) rfl rfl; have f2_ := HS.out.c 0 1 (v := .int .i64 x) rfl rfl; have f3_ := HS.out.c 0 2 (v := .int .i64 y) rfl rfl) | ((with_reducible refine gate_store (t := 66) (p := 2) rfl ?_); refine stL HS 1 0 #[(.string s), .int .i64 x, .int .i64 y] rfl rfl rfl rfl rfl ?_; clear HS f1_ f2_ f3_; intro w1 HS))
  refine bodyPost_ret (results_cell_row rfl _ _ g_r 66 #[(.string s), .int .i64 x, .int .i64 y] (0, 0) _ rfl (HS.out.at (i := 1) rfl) Try.underlying66 rfl (by kernel_rfl)) rfl ?_
  exact ⟨rfl, HS.out.below⟩
theorem list_done {l y : Ts} (hl : y.length = l.length) (h : ∀ j, j < l.length → y.getD j zT = l.getD j zT) : y = l := by
  apply List.ext_getElem hl
  intro j h1 h2
  have := h j h2
  rwa [getD_lt _ _ _ h1, getD_lt _ _ _ h2] at this
theorem getD_set {l : Ts} {k j : Nat} {t : Tm} (hk : k < l.length) : (l.set k t).getD j zT = if j = k then t else l.getD j zT := by
  rw [List.getD_eq_getElem?_getD, List.getD_eq_getElem?_getD, List.getElem?_set]
  by_cases h : k = j
  · subst h; simp [hk]
  · rw [if_neg h, if_neg (Ne.symm h)]
set_option maxHeartbeats 8000000 in
theorem lawTermS (A : Option Addr) (c : Nat) (l : Ts) (w : World) (hr : KT.C w A l.length l) (hm : l.length ≤ 1048576) :
    Calls Try.prog 97 #[.slice A l.length c] w fun e w' => ∃ A' c', e = .returned (.slice A' l.length c') ∧ Sep w w' [rw' KT rfl 66 (.slice A' l.length c') l] := by
  have HR := Aside0.mk hr
  have HS := Aside0.mk (Sep.refl w)
  clear hr
  go_enter Try.func97, Try.ntmps97
  go_wp2_with (first | ((with_reducible refine gate_dst (N := 7) rfl ?_); refine wpList_stp (fun K hK => ?_); refine stp_make (KT) rfl 66 (by rfl) HS rfl 22 _ _ rfl l.length rfl rfl Try.underlying22 _ 32 infoTerm rfl zT (KT_M zT) (by omega) ?_; clear HS; intro A_o c_o w1 HS; refine hK _ _ ?_; clear hK K))
  by_cases hz : l.length = 0
  · have he : List.replicate l.length zT = l := by rw [List.eq_nil_of_length_eq_zero hz]; rfl
    rw [he] at HS
    have hn : ¬ (0 < l.length) := by omega
    clear hz he
    go_loopw [4] (fun v w' => v = .int .i64 0 ∧ Aside0 (Mod w w' No [rw' KT rfl 66 (.slice A_o l.length c_o) l])) (fun v _ => 0)
    case atStart => exact ⟨rfl, HS⟩
    case round =>
      clear HS
      obtain ⟨rfl, HS⟩ := hrel
      go_wp2
      go_ret
      exact ⟨A_o, c_o, rfl, HS.out⟩
  · obtain ⟨g_o, sp, rfl, hI, hlen, hcm⟩ := R_tr (HS.out.rowAt 0 rfl) (by simp) (by simp; omega)
    have n_ := Aside0.mk (HS.out.asBlock (i := 0) rfl hI)
    clear HS hI
    have HS := n_
    clear n_
    simp only [List.set_cons_zero] at HS
    have HC := Aside0.mk hlen
    clear hlen hz
    go_loopw [4] (fun v w' => ∃ (k : Nat) (y : Ts), k ≤ l.length ∧ v = .int .i64 (k : Int) ∧ y.length = l.length ∧ Aside0 (∀ j, j < k → y.getD j zT = l.getD j zT) ∧ Aside0 (Mod w w' No [tr g_o 66 y sp])) (fun v _ => l.length - (intOf v).toNat)
    case atStart => exact ⟨0, _, by omega, rfl, by simp, ⟨fun j hj => by omega⟩, HS⟩
    case round =>
      clear HS
      obtain ⟨k, y, hk, rfl, hy, HY, HS⟩ := hrel
      by_cases hlt : k < l.length
      · skip
        obtain ⟨ad_A, ea_, h0_, h1_, h2_⟩ := tm_at HR.out k (hlt)
        cases ea_
        obtain ⟨t, ht_⟩ : ∃ t_, t_ = l.getD k zT := ⟨_, rfl⟩
        rw [← ht_] at h0_ h1_ h2_
        have Et := Aside0.mk ht_; have H0t := Aside0.mk h0_; have H1t := Aside0.mk h1_; have H2t := Aside0.mk h2_
        clear ht_ h0_ h1_ h2_
        have hky : k < y.length := by omega
        obtain ⟨y', hy'⟩ : ∃ y', y' = y.set k t := ⟨_, rfl⟩
        have HY' := Aside0.mk hy'
        have hyl : y'.length = l.length := by rw [hy', List.length_set]; exact hy
        clear hy'
        have f1_ := HS.out.old H0t.out
        have f2_ := HS.out.old H1t.out
        have f3_ := HS.out.old H2t.out
        go_wp2_with (first | (go_at_call 163; refine (lawTerm _ _ _ _).mono ?_; rintro e_ w1 ⟨rfl, hb⟩; replace HS := sB HS hb; clear hb f1_ f2_ f3_) | ((with_reducible refine gate_store (t := 66) (p := 21) rfl ?_); refine wpList_stp (fun K hK => ?_); refine stp_put_term (by rfl) rfl rfl HS 0 rfl k hky t rfl rfl (by kernel_rfl) ?_; clear HS; intro w1 HS; simp only [List.set_cons_zero] at HS; rw [← HY'.out] at HS; refine hK _ _ ?_; clear hK K))
        go_roundw
        case rel => exact ⟨k + 1, y', by omega, by go_num, hyl, ⟨round_next (fun j hj => by rw [HY'.out, getD_set hky, if_neg (by omega)]; exact HY.out j hj) (by rw [HY'.out, getD_set hky, if_pos rfl, Et.out])⟩, HS⟩
        case measure => simp [intOf]; omega
      · obtain rfl : y = l := list_done hy (fun j hj => HY.out j (by omega))
        go_wp2
        go_ret
        exact ⟨_, c_o, rfl, (HS.out.asRow (i := 0) rfl (cap := c_o) (by have := HC.out; rw [List.length_append, flat_length] at this ⊢; rw [List.length_replicate] at this; omega) hcm)⟩
end Go.Proofs.Ytaheikponfmdiaa.H
namespace Go.Proofs.Ytaheikponfmdiaa.M
def dig (q : Nat) : ByteArray := ⟨#[(48 + q).toUInt8]⟩
def mtA : Nat → Nat → ByteArray → ByteArray
  | 0, _, out => out
  | f + 1, k, out => if k = 0 then out else mtA f (k / 10) (dig (k % 10) ++ out)
theorem mtA_more : ∀ (f k : Nat) (out : ByteArray), k ≤ f → mtA f k out = mtA k k out
  | 0, k, out, h => by obtain rfl : k = 0 := by omega
                       rfl
  | f + 1, 0, out, h => by simp [mtA]
  | f + 1, k + 1, out, h => by
    rw [mtA, mtA, if_neg (by omega), if_neg (by omega), mtA_more f ((k + 1) / 10) _ (by omega), mtA_more k ((k + 1) / 10) _ (by omega)]
theorem mtA_next {k : Nat} (out : ByteArray) (h : 0 < k) : mtA k k out = mtA (k / 10) (k / 10) (dig (k % 10) ++ out) := by
  obtain ⟨j, rfl⟩ : ∃ j, k = j + 1 := ⟨k - 1, by omega⟩
  rw [mtA, if_neg (by omega), mtA_more j _ _ (by omega)]
/-- The mark's text. -/
def mt (k : Nat) : ByteArray := ⟨#[109]⟩ ++ mtA k k ⟨#[]⟩
end Go.Proofs.Ytaheikponfmdiaa.M
namespace Go.Proofs.Ytaheikponfmdiaa.H
open Go.RowKit Go.Proofs.YtaheikponfmdiaaW.PrintWords Go.Proofs.YtaheikponfmdiaaW.PrintLast Go.Proofs.YtaheikponfmdiaaW.PrintMore Go.Proofs.Ytaheikponfmdiaa.M
attribute [local go_sem] max2_int min2_int max_two min_two max_three min_three max_four min_four
set_option linter.unusedVariables false
set_option linter.unusedSimpArgs false
set_option maxRecDepth 100000
theorem u8_small (x : Int) (h0 : 0 ≤ x) (h1 : x < 256) : IntKind.u8.wrap x = x := IntWalk.u8_in x ⟨h0, by omega⟩
/-- A row of one byte turned into a text. -/
theorem byte_string (W : World) (x : Int) : (convert 48 9 (.slice (some ⟨W.heap.size, 0, none⟩) 1 1)).run Try.prog (W.alloc (.cells #[.int .u8 x] 5)) = .ok (.string (strOfNums [x])) (W.alloc (.cells #[.int .u8 x] 5)) := by
  have h := own_lit W 0 5 .u8 [x] (Nat.zero_le _) (by simp)
  exact own_string Try.underlying48 Try.underlying5 Try.underlying9 h
theorem dig_str (q : Nat) (h : q < 10) : strOfNums [48 + (q : Int)] = dig q := by
  match q, h with
  | 0, _ => rfl
  | 1, _ => rfl
  | 2, _ => rfl
  | 3, _ => rfl
  | 4, _ => rfl
  | 5, _ => rfl
  | 6, _ => rfl
  | 7, _ => rfl
  | 8, _ => rfl
  | 9, _ => rfl
  | n + 10, h => omega
set_option maxHeartbeats 4000000 in
theorem lawMarkText (k0 : Nat) (w : World) (h0 : 0 < k0) (h1 : k0 ≤ 100000000) : Calls Try.prog 157 #[.int .i64 (k0 : Int)] w fun e w' => e = .returned (.string (mt k0)) ∧ Below w.heap.size w w' := by
  have HS := Aside0.mk (Sep.refl w)
  have h2 : ¬ ((k0 : Int) ≤ 0) := by omega
  go_enter Try.func157, Try.ntmps157
  go_wp2
  clear h2
  go_loopw [0, 3] (fun x y w' => ∃ (k : Nat) (s : ByteArray), x = .int .i64 (k : Int) ∧ y = .string s ∧ k ≤ 100000000 ∧ s.size ≤ 20 ∧ Aside0 (k * 10 ^ s.size ≤ 100000000) ∧ Aside0 (mtA k k s = mtA k0 k0 ⟨#[]⟩) ∧ Aside0 (Mod w w' No [])) (fun x _ _ => (intOf x).toNat)
  case atStart => exact ⟨k0, ⟨#[]⟩, rfl, rfl, h1, by decide, ⟨by show k0 * 1 ≤ _; omega⟩, ⟨rfl⟩, HS⟩
  case round =>
    clear HS
    obtain ⟨k, s, rfl, rfl, hk, hs, HP, HM, HS⟩ := hrel
    by_cases hz : 0 < k
    · obtain ⟨q, hq⟩ : ∃ q, k % 10 = q := ⟨_, rfl⟩
      obtain ⟨k', hk'⟩ : ∃ k', k / 10 = k' := ⟨_, rfl⟩
      have hq9 : q < 10 := by omega
      have hkk : k' < k := by omega
      have HN := Aside0.mk (mtA_next s hz)
      rw [hq, hk'] at HN
      have hs9 : s.size ≤ 8 := by
        have := HP.out
        by_cases h : s.size ≤ 8
        · exact h
        · have h9 : 10 ^ 9 ≤ 10 ^ s.size := Nat.pow_le_pow_right (by omega) (by omega)
          have : 1 * 10 ^ 9 ≤ k * 10 ^ s.size := Nat.mul_le_mul hz h9
          omega
      have HP2 := Aside0.mk (show k' * 10 ^ (s.size + 1) ≤ 100000000 by
        have := HP.out
        rw [Nat.pow_succ, Nat.mul_comm (10 ^ s.size) 10, ← Nat.mul_assoc]
        exact Nat.le_trans (Nat.mul_le_mul_right _ (by omega)) this)
      have hqi : (k : Int) % 10 = (q : Int) := by omega
      have hqd : (k : Int) / 10 = (k' : Int) := by omega
      have hsz : (9223372036854775807 < (strOfNums [48 + (q : Int)]).size + s.size) = False := eq_false (Nat.not_lt.2 (by show 1 + s.size ≤ 9223372036854775807; omega))
      have HW := Aside0.mk (show IntKind.u8.wrap (48 + (q : Int)) = 48 + q from u8_small _ (by omega) (by omega))
      have hw := HW.out
      have hcv := byte_string wr (48 + (q : Int))
      go_wp2
      go_roundw
      case rel => exact ⟨k', dig q ++ s, rfl, by rw [dig_str q hq9], by omega, by rw [ByteArray.size_append]; show 1 + s.size ≤ 20; omega, ⟨by rw [ByteArray.size_append]; show k' * 10 ^ (1 + s.size) ≤ _; rw [Nat.add_comm]; exact HP2.out⟩, ⟨by rw [← HN.out]; exact HM.out⟩, ⟨HS.out.call (below_alloc (Below.refl _ _) _)⟩⟩
      case measure => simp [intOf]; omega
    · obtain rfl : k = 0 := by omega
      have HE := Aside0.mk (show s = mtA k0 k0 ⟨#[]⟩ from HM.out)
      have hsz : (9223372036854775807 < ByteArray.size ⟨#[109]⟩ + s.size) = False := eq_false (Nat.not_lt.2 (by show 1 + s.size ≤ 9223372036854775807; omega))
      go_wp2
      go_ret
      exact ⟨ret_str (by rw [HE.out]; rfl), HS.out.below⟩
/-- The i-th mark from k on. -/
def mkT (k i : Nat) : Tm := (mt (k + 3 * i), ((k + 3 * i + 1 : Nat) : Int), ((k + 3 * i + 2 : Nat) : Int))
def mkd (k n : Nat) : Ts := (List.range n).map (mkT k)
theorem mkd_length (k n : Nat) : (mkd k n).length = n := by simp [mkd]
theorem mkd_get {k n j : Nat} (h : j < n) : (mkd k n).getD j zT = mkT k j := by
  rw [List.getD_eq_getElem?_getD, mkd, List.getElem?_map, List.getElem?_range h]; rfl
set_option maxHeartbeats 8000000 in
theorem lawMarkTermS (A : Option Addr) (c : Nat) (l : Ts) (k : Nat) (w : World) (hR : (rw' KT rfl 66 (.slice A l.length c) l).I w) (hl : l.length ≤ 1048576) (hk0 : 0 < k) (hk1 : k ≤ 10000000) :
    Calls Try.prog 91 #[.slice A l.length c, .int .i64 (k : Int)] w fun e w' => e = .returned (.int .i64 ((k + 3 * l.length : Nat) : Int)) ∧ Mod w w' (rw' KT rfl 66 (.slice A l.length c) l).S [rw' KT rfl 66 (.slice A l.length c) (mkd k l.length)] := by
  have HS := Aside0.mk (Mod.own1 hR)
  clear hR
  by_cases hz : l.length = 0
  · obtain rfl : l = [] := List.eq_nil_of_length_eq_zero hz
    have HE := Aside0.mk (show mkd k ([] : Ts).length = [] from rfl)
    have hn : ¬ (0 < ([] : Ts).length) := by simp
    clear hz
    go_enter Try.func91, Try.ntmps91
    go_wp2
    go_loopw [1, 5] (fun x v w' => x = .int .i64 (k : Int) ∧ v = .int .i64 0 ∧ Aside0 (Mod w w' (rw' KT rfl 66 (.slice A ([] : Ts).length c) []).S [rw' KT rfl 66 (.slice A ([] : Ts).length c) []])) (fun _ v _ => 0)
    case atStart => exact ⟨rfl, rfl, HS⟩
    case round =>
      clear HS
      obtain ⟨rfl, rfl, HS⟩ := hrel
      go_wp2
      go_ret
      exact ⟨rfl, HS.out⟩
  · obtain ⟨g_o, sp, rfl, hI, hlen, hcm⟩ := R_tr (HS.out.rowAt 0 rfl) rfl (by omega)
    have n_ := Aside0.mk (HS.out.asBlock (i := 0) rfl hI)
    clear HS hI
    have HS := n_
    clear n_ hz
    simp only [List.set_cons_zero] at HS
    have HC := Aside0.mk hlen
    clear hlen
    go_enter Try.func91, Try.ntmps91
    go_wp2
    go_loopw [1, 5] (fun x v w' => ∃ (i m : Nat) (y : Ts), i ≤ l.length ∧ v = .int .i64 (i : Int) ∧ x = .int .i64 (m : Int) ∧ m = k + 3 * i ∧ y.length = l.length ∧ Aside0 (∀ j, j < i → y.getD j zT = mkT k j) ∧ Aside0 (Mod w w' (rw' KT rfl 66 (.slice (some ⟨g_o, 0, none⟩) l.length c) l).S [tr g_o 66 y sp])) (fun _ v _ => l.length - (intOf v).toNat)
    case atStart => exact ⟨0, k, l, by omega, rfl, rfl, rfl, rfl, ⟨fun j hj => by omega⟩, HS⟩
    case round =>
      clear HS
      obtain ⟨i, m, y, hi, rfl, rfl, hm, hy, HY, HS⟩ := hrel
      by_cases hlt : i < l.length
      · have hiy : i < y.length := by omega
        have hm1 : m ≤ 100000000 := by omega
        have hm0 : 0 < m := by omega
        have HM := Aside0.mk hm
        obtain ⟨t, ht⟩ : ∃ t, t = y.getD i zT := ⟨_, rfl⟩
        have ET := Aside0.mk ht
        obtain ⟨y1, hy1⟩ : ∃ z, z = y.set i (mt m, t.2.1, t.2.2) := ⟨_, rfl⟩
        have hl1 : i < y1.length := by rw [hy1, List.length_set]; exact hiy
        have E1 := Aside0.mk (show y1.getD i zT = (mt m, t.2.1, t.2.2) by rw [hy1, getD_set hiy, if_pos rfl])
        obtain ⟨y2, hy2⟩ : ∃ z, z = y1.set i (mt m, ((m + 1 : Nat) : Int), t.2.2) := ⟨_, rfl⟩
        have hl2 : i < y2.length := by rw [hy2, List.length_set]; exact hl1
        have E2 := Aside0.mk (show y2.getD i zT = (mt m, ((m + 1 : Nat) : Int), t.2.2) by rw [hy2, getD_set hl1, if_pos rfl])
        obtain ⟨y3, hy3⟩ : ∃ z, z = y2.set i (mt m, ((m + 1 : Nat) : Int), ((m + 2 : Nat) : Int)) := ⟨_, rfl⟩
        have hl3 : y3.length = l.length := by rw [hy3, List.length_set, hy2, List.length_set, hy1, List.length_set]; exact hy
        have Y1 := Aside0.mk hy1
        have Y2 := Aside0.mk hy2
        have Y3 := Aside0.mk hy3
        have HN := Aside0.mk (show ∀ j, j < i → y3.getD j zT = mkT k j from fun j hj => by rw [hy3, getD_set hl2, if_neg (by omega), hy2, getD_set hl1, if_neg (by omega), hy1, getD_set hiy, if_neg (by omega)]; exact HY.out j hj)
        have HN2 := Aside0.mk (show y3.getD i zT = mkT k i by rw [hy3, getD_set hl2, if_pos rfl, hm]; rfl)
        clear ht hy1 hy2 hy3 hm
        go_wp2_with (first | (go_at_call 157; refine (lawMarkText m _ hm0 hm1).mono ?_; rintro e_ w1 ⟨rfl, hb⟩; replace HS := sB HS hb; clear hb) | ((with_reducible refine gate_store (t := 9) (p := 17) rfl ?_); refine wpList_stp (fun K hK => ?_); refine stp_put_part (by rfl) rfl rfl HS 0 rfl i 0 hiy (by omega) (mt m, t.2.1, t.2.2) (.string (mt m)) rfl rfl (by rw [← ET.out]; rfl) rfl rfl (by kernel_rfl) ?_; clear HS; intro w1 HS; simp only [List.set_cons_zero] at HS; rw [← Y1.out] at HS; refine hK _ _ ?_; clear hK K) | ((with_reducible refine gate_store (t := 2) (p := 25) rfl ?_); refine wpList_stp (fun K hK => ?_); refine stp_put_part (by rfl) rfl rfl HS 0 rfl i 1 hl1 (by omega) (mt m, ((m + 1 : Nat) : Int), t.2.2) (.int .i64 ((m + 1 : Nat) : Int)) rfl rfl (by rw [E1.out]; rfl) rfl rfl (by kernel_rfl) ?_; clear HS; intro w1 HS; simp only [List.set_cons_zero] at HS; rw [← Y2.out] at HS; refine hK _ _ ?_; clear hK K) | ((with_reducible refine gate_store (t := 2) (p := 33) rfl ?_); refine wpList_stp (fun K hK => ?_); refine stp_put_part (by rfl) rfl rfl HS 0 rfl i 2 hl2 (by omega) (mt m, ((m + 1 : Nat) : Int), ((m + 2 : Nat) : Int)) (.int .i64 ((m + 2 : Nat) : Int)) rfl rfl (by rw [E2.out]; rfl) rfl (by go_num) (by kernel_rfl) ?_; clear HS; intro w1 HS; simp only [List.set_cons_zero] at HS; rw [← Y3.out] at HS; refine hK _ _ ?_; clear hK K))
        go_roundw
        case rel => exact ⟨i + 1, m + 3, y3, by omega, by go_num, by first | go_num | rfl, by rw [HM.out]; omega, hl3, ⟨round_next HN.out HN2.out⟩, HS⟩
        case measure => simp [intOf]; omega
      · obtain rfl : y = mkd k l.length := list_done (by rw [mkd_length]; exact hy) (fun j hj => by rw [mkd_length] at hj; rw [mkd_get hj]; exact HY.out j (by omega))
        go_wp2
        go_ret
        have hfin := HS.out.asRow (i := 0) rfl (cap := c) (by have := HC.out; rw [List.length_append, flat_length] at this ⊢; rw [mkd_length]; omega) hcm
        rw [mkd_length] at hfin
        exact ⟨ret_int (by omega), hfin⟩
end Go.Proofs.Ytaheikponfmdiaa.H
namespace Go.Proofs.Ytaheikponfmdiaa.H
open Go.RowKit Go.Proofs.YtaheikponfmdiaaW.PrintWords Go.Proofs.YtaheikponfmdiaaW.PrintLast Go.Proofs.YtaheikponfmdiaaW.PrintMore Go.Proofs.Ytaheikponfmdiaa.M
attribute [local go_sem] max2_int min2_int max_two min_two max_three min_three max_four min_four
set_option linter.unusedVariables false
set_option linter.unusedSimpArgs false
set_option maxRecDepth 100000
/-- A series as a result: the value, and its row of one's own. -/
abbrev rowT (A : Option Addr) (c : Nat) (l : Ts) : As := rw' KT rfl 66 (.slice A l.length c) l
set_option maxHeartbeats 4000000 in
theorem lawHeldTermS (A : Option Addr) (c n : Nat) (k : Nat) (w : World) (hr : KT.C w A n (mkd k n)) (hl : n ≤ 1048576) (hk0 : 0 < k) (hk1 : k ≤ 10000000) :
    Calls Try.prog 92 #[.slice A n c, .int .i64 (k : Int)] w fun e w' => e = .returned (.int .i64 ((k + 3 * n : Nat) : Int)) ∧ Below w.heap.size w w' := by
  have HR := Aside0.mk hr
  have HS := Aside0.mk (Sep.refl w)
  clear hr
  go_enter Try.func92, Try.ntmps92
  go_wp2
  go_loopw [1, 5] (fun x v w' => ∃ i m : Nat, i ≤ n ∧ v = .int .i64 (i : Int) ∧ x = .int .i64 (m : Int) ∧ m = k + 3 * i ∧ Aside0 (Mod w w' No [])) (fun _ v _ => n - (intOf v).toNat)
  case atStart => exact ⟨0, k, by omega, rfl, rfl, rfl, HS⟩
  case round =>
    clear HS
    obtain ⟨i, m, hi, rfl, rfl, hm, HS⟩ := hrel
    by_cases hlt : i < n
    · obtain ⟨ad_A, ea_, h0_, h1_, h2_⟩ := tm_at HR.out i hlt
      cases ea_
      rw [mkd_get hlt] at h0_ h1_ h2_
      unfold mkT at h0_ h1_ h2_
      rw [← hm] at h0_ h1_ h2_
      have hm1 : m ≤ 100000000 := by omega
      have hm0 : 0 < m := by omega
      have HM := Aside0.mk hm
      have H0 := Aside0.mk h0_
      have H1 := Aside0.mk h1_
      have H2 := Aside0.mk h2_
      clear h0_ h1_ h2_ hm
      have hb1 : ((mt m).toList != (mt m).toList) = false := by simp
      have hb2 : (((m + 1 : Nat) : Int) != ((m + 1 : Nat) : Int)) = false := by simp
      have hb3 : (((m + 2 : Nat) : Int) != ((m + 2 : Nat) : Int)) = false := by simp
      have hb4 : (((m : Int) + 1) != ((m : Int) + 1)) = false := by simp
      have hb5 : (((m : Int) + 2) != ((m : Int) + 1 + 1)) = false := by rw [bne_eq_false_iff_eq]; omega
      go_wp2
      replace HS := sD HS
      refine ps (.p 0 (.p 1 (.p 2 (.p 3 (.p 5 (.t 4 (.e 6 (.p 7 .done)))))))) (fun w' => w'.cell? (ad_A.add (i * 3)) = some (.string (mt m))) [] (HS.out.old H0.out) (fun hHeld => ?_)
      repeat (first | ((with_reducible refine gate_p ?_); refine rp rfl rfl ?_) | ((with_reducible refine gate_t ?_); refine rt rfl rfl hHeld ?_))
      refine run_e rfl (fun K hK => ?_)
      refine gc Try.func157 (lawMarkText m _ hm0 hm1) rfl rfl ?_
      rintro e_ w1 ⟨rfl, hb⟩
      refine ⟨_, rfl, ?_⟩
      replace HS := sB HS hb
      clear hb
      refine ge hK (HS.out.old H0.out) (fun hHeld => ?_)
      clear hK K
      repeat (first | ((with_reducible refine gate_p ?_); refine rp rfl rfl ?_) | ((with_reducible refine gate_t ?_); refine rt rfl rfl hHeld ?_))
      refine run_done ?_
      clear hHeld
      have f1_ := HS.out.old H1.out
      have f2_ := c2 (HS.out.old H2.out)
      go_wp2
      go_roundw
      case rel => exact ⟨i + 1, m + 3, by omega, by go_num, by first | go_num | rfl, by rw [HM.out]; omega, HS⟩
      case measure => simp [intOf]; omega
    · skip
      go_wp2
      go_ret
      exact ⟨ret_int (by omega), HS.out.below⟩
set_option maxHeartbeats 4000000 in
theorem lawHeldSeries (d n : Int) (A : Option Addr) (c m : Nat) (k : Nat) (w : World) (hr : KT.C w A m (mkd k m)) (hl : m ≤ 1048576) (hk0 : 0 < k) (hk1 : k ≤ 10000000) :
    Calls Try.prog 18 #[.agg #[.int .i64 d, .int .i64 n, .slice A m c], .int .i64 (k : Int)] w fun e w' => e = .returned (.int .i64 ((k + 3 * m : Nat) : Int)) ∧ Below w.heap.size w w' := by
  have HR := Aside0.mk hr
  have HS := Aside0.mk (Sep.refl w)
  have hn : ¬ (((k + 3 * m : Nat) : Int) < 0) := by omega
  clear hr
  go_enter Try.func18, Try.ntmps18
  go_wp2_with (first | ((with_reducible refine gate_dst (N := 2) rfl ?_); refine bxL 24 #[.int .i64 d, .int .i64 n, .slice A m c] HS ?_; clear HS; intro g_x w1 hg_x HS; have f1_ := HS.out.c 0 2 (v := .slice A m c) rfl rfl) | (go_at_call 92; refine (lawHeldTermS A c m k _ (HS.out.oldC HR.out) hl hk0 hk1).mono ?_; rintro e_ w1 ⟨rfl, hb⟩; replace HS := sB HS hb; clear hb f1_))
  go_ret
  exact ⟨rfl, HS.out.below⟩
set_option maxHeartbeats 4000000 in
theorem lawMarkSeries (d n : Int) (A : Option Addr) (c : Nat) (l : Ts) (k : Nat) (w : World) (hR : (rowT A c l).I w) (hl : l.length ≤ 1048576) (hk0 : 0 < k) (hk1 : k ≤ 10000000) :
    Calls Try.prog 17 #[.agg #[.int .i64 d, .int .i64 n, .slice A l.length c], .int .i64 (k : Int)] w fun e w' => e = .returned (.int .i64 ((k + 3 * l.length : Nat) : Int)) ∧ Mod w w' (rowT A c l).S [rw' KT rfl 66 (.slice A l.length c) (mkd k l.length)] := by
  have HS := Aside0.mk (Mod.own1 hR)
  clear hR
  go_enter Try.func17, Try.ntmps17
  go_wp2_with (first | ((with_reducible refine gate_dst (N := 2) rfl ?_); refine bxL 24 #[.int .i64 d, .int .i64 n, .slice A l.length c] HS ?_; clear HS; intro g_x w1 hg_x HS; have f1_ := HS.out.c 0 2 (v := .slice A l.length c) rfl rfl) | (go_at_call 91; refine (lawMarkTermS A c l k _ (HS.out.rowAt 1 rfl) hl hk0 hk1).mono ?_; rintro e_ w1 ⟨rfl, hs⟩; replace HS : Aside0 (Mod _ _ _ [_, _]) := sM1 HS 1 [0] rfl hs; clear hs f1_))
  replace HS : Aside0 (Mod _ _ _ [_]) := sX HS [0]
  go_ret
  exact ⟨rfl, HS.out⟩
set_option maxHeartbeats 4000000 in
theorem lawSeries (d n : Int) (A : Option Addr) (c : Nat) (l : Ts) (w : World) (hr : KT.C w A l.length l) (hm : l.length ≤ 1048576) :
    Calls Try.prog 21 #[.agg #[.int .i64 d, .int .i64 n, .slice A l.length c]] w fun e w' => ∃ A' c', e = .returned (.agg #[.int .i64 d, .int .i64 n, .slice A' l.length c']) ∧ Sep w w' [rowT A' c' l] := by
  have HR := Aside0.mk hr
  have HS := Aside0.mk (Sep.refl w)
  clear hr
  go_enter Try.func21, Try.ntmps21
  go_wp2_with (first | ((with_reducible refine gate_dst (N := 1) rfl ?_); refine bxL 32 #[.int .i64 d, .int .i64 n, .slice A l.length c] HS ?_; clear HS; intro g_a w1 hg_a HS) | ((with_reducible refine gate_dst (N := 2) rfl ?_); refine bxL 24 #[(.int .i64 0), (.int .i64 0), (.slice none 0 0)] HS ?_; clear HS; intro g_r w1 hg_r HS) | ((with_reducible refine gate_dst (N := 3) rfl ?_); refine bxL 24 #[(.int .i64 0), (.int .i64 0), (.slice none 0 0)] HS ?_; clear HS; intro g_o w1 hg_o HS; have f1_ := HS.out.c 2 0 (v := .int .i64 d) rfl rfl) | ((with_reducible refine gate_store (t := 2) (p := 6) rfl ?_); refine stL HS 0 0 #[(.int .i64 d), (.int .i64 0), (.slice none 0 0)] rfl rfl rfl rfl rfl ?_; clear HS f1_; intro w1 HS; have f1_ := HS.out.c 2 1 (v := .int .i64 n) rfl rfl) | ((with_reducible refine gate_store (t := 2) (p := 9) rfl ?_); refine stL HS 0 1 #[(.int .i64 d), (.int .i64 n), (.slice none 0 0)] rfl rfl rfl rfl rfl ?_; clear HS f1_; intro w1 HS; have f1_ := HS.out.c 2 2 (v := .slice A l.length c) rfl rfl) | (go_at_call 97; refine (lawTermS A c l _ (HS.out.oldC HR.out) hm).mono ?_; rintro e_ w1 ⟨A1, c1, rfl, hs⟩; replace HS := sN1 HS hs; clear hs f1_) | ((with_reducible refine gate_store (t := 22) (p := 13) rfl ?_); refine stL HS 1 2 #[(.int .i64 d), (.int .i64 n), (.slice A1 l.length c1)] rfl rfl rfl rfl rfl ?_; clear HS; intro w1 HS; have f1_ := HS.out.c 1 0 (v := (.int .i64 d)) rfl rfl; have f2_ := HS.out.c 1 1 (v := (.int .i64 n)) rfl rfl; have f3_ := HS.out.c 1 2 (v := (.slice A1 l.length c1)) rfl rfl) | ((with_reducible refine gate_store (t := 24) (p := 2) rfl ?_); refine stL HS 2 0 #[(.int .i64 d), (.int .i64 n), (.slice A1 l.length c1)] rfl rfl rfl rfl rfl ?_; clear HS f1_ f2_ f3_; intro w1 HS))
  refine bodyPost_ret (results_cell_row rfl _ _ g_r 24 #[(.int .i64 d), (.int .i64 n), (.slice A1 l.length c1)] (0, 0) _ rfl (HS.out.at (i := 2) rfl) Try.underlying24 rfl (by kernel_rfl)) rfl ?_
  replace HS : Aside0 (Mod _ _ _ [_]) := sX HS [0]
  exact ⟨A1, c1, rfl, HS.out⟩
theorem lawEqFraction (x y : Int) (w : World) : Calls Try.prog 23 #[.agg #[.int .i64 x, .int .i64 y], .agg #[.int .i64 x, .int .i64 y]] w fun e w' => e = .returned (.bool true) ∧ Below w.heap.size w w' := by
  have HS := Aside0.mk (Sep.refl w)
  have h1 : (x != x) = false := by simp
  have h2 : (y != y) = false := by simp
  go_enter Try.func23, Try.ntmps23
  go_wp2_with (first | ((with_reducible refine gate_dst (N := 2) rfl ?_); refine bxL 35 #[.int .i64 x, .int .i64 y] HS ?_; clear HS; intro g_a w1 hg_a HS) | ((with_reducible refine gate_dst (N := 3) rfl ?_); refine bxL 35 #[.int .i64 x, .int .i64 y] HS ?_; clear HS; intro g_b w1 hg_b HS; have f1_ := HS.out.c 1 0 (v := .int .i64 x) rfl rfl; have f2_ := HS.out.c 0 0 (v := .int .i64 x) rfl rfl; have f3_ := HS.out.c 1 1 (v := .int .i64 y) rfl rfl; have f4_ := HS.out.c 0 1 (v := .int .i64 y) rfl rfl))
  go_ret
  exact ⟨rfl, HS.out.below⟩
set_option maxHeartbeats 4000000 in
theorem lawEqTerm (s : ByteArray) (x y : Int) (w : World) : Calls Try.prog 156 #[.agg #[.string s, .int .i64 x, .int .i64 y], .agg #[.string s, .int .i64 x, .int .i64 y]] w fun e w' => e = .returned (.bool true) ∧ Below w.heap.size w w' := by
  have HS := Aside0.mk (Sep.refl w)
  have h1 : (s.toList != s.toList) = false := by simp
  go_enter Try.func156, Try.ntmps156
  go_wp2_with (first | ((with_reducible refine gate_dst (N := 2) rfl ?_); refine bxL 66 #[.string s, .int .i64 x, .int .i64 y] HS ?_; clear HS; intro g_a w1 hg_a HS) | ((with_reducible refine gate_dst (N := 3) rfl ?_); refine bxL 66 #[.string s, .int .i64 x, .int .i64 y] HS ?_; clear HS; intro g_b w1 hg_b HS; have f1_ := HS.out.c 1 0 (v := .string s) rfl rfl; have f2_ := HS.out.c 0 0 (v := .string s) rfl rfl; have f3_ := HS.out.c 1 1 (v := .int .i64 x) rfl rfl; have f4_ := HS.out.c 1 2 (v := .int .i64 y) rfl rfl; have f5_ := HS.out.c 0 1 (v := .int .i64 x) rfl rfl; have f6_ := HS.out.c 0 2 (v := .int .i64 y) rfl rfl) | (go_at_call 23; refine (lawEqFraction x y _).mono ?_; rintro e_ w1 ⟨rfl, hb⟩; replace HS := sB HS hb; clear hb f1_ f2_ f3_ f4_ f5_ f6_))
  go_ret
  exact ⟨rfl, HS.out.below⟩
set_option maxHeartbeats 4000000 in
theorem lawEqTermS (A B : Option Addr) (c c' : Nat) (l : Ts) (w : World) (hr : KT.C w A l.length l) (hr2 : KT.C w B l.length l) (hm : l.length ≤ 1048576) :
    Calls Try.prog 90 #[.slice A l.length c, .slice B l.length c'] w fun e w' => e = .returned (.bool true) ∧ Below w.heap.size w w' := by
  have HR := Aside0.mk hr
  have HR2 := Aside0.mk hr2
  have HS := Aside0.mk (Sep.refl w)
  have h1 : ((l.length : Int) != (l.length : Int)) = false := by simp
  clear hr hr2
  go_enter Try.func90, Try.ntmps90
  go_wp2
  go_loopw [5] (fun v w' => ∃ k : Nat, k ≤ l.length ∧ v = .int .i64 (k : Int) ∧ Aside0 (Mod w w' No [])) (fun v _ => l.length - (intOf v).toNat)
  case atStart => exact ⟨0, by omega, rfl, HS⟩
  case round =>
    clear HS
    obtain ⟨k, hk, rfl, HS⟩ := hrel
    by_cases hlt : k < l.length
    · skip
      obtain ⟨ad_A, ea_, h0_, h1_, h2_⟩ := tm_at HR.out k (hlt)
      cases ea_
      obtain ⟨t, ht_⟩ : ∃ t_, t_ = l.getD k zT := ⟨_, rfl⟩
      rw [← ht_] at h0_ h1_ h2_
      have Et := Aside0.mk ht_; have H0t := Aside0.mk h0_; have H1t := Aside0.mk h1_; have H2t := Aside0.mk h2_
      clear ht_ h0_ h1_ h2_
      obtain ⟨ad_B, ea_, h0_, h1_, h2_⟩ := tm_at HR2.out k (hlt)
      cases ea_
      rw [← Et.out] at h0_ h1_ h2_
      have H0u := Aside0.mk h0_; have H1u := Aside0.mk h1_; have H2u := Aside0.mk h2_
      clear h0_ h1_ h2_
      have hq0 : (0 : Int) ≤ k := by omega
      have hq1 : (k : Int) < l.length := by omega
      go_wp2
      replace HS := sD HS
      refine ps (.p 0 (.p 1 (.p 2 (.p 4 (.p 5 (.p 6 (.t 3 (.t 7 (.d 8 (.p 9 .done)))))))))) (fun w' => w'.cell? (ad_A.add (k * 3)) = some (.string t.1) ∧ w'.cell? ⟨(ad_A.add (k * 3)).block, (ad_A.add (k * 3)).off + 1, none⟩ = some (.int .i64 t.2.1) ∧ w'.cell? ⟨(ad_A.add (k * 3)).block, (ad_A.add (k * 3)).off + 2, none⟩ = some (.int .i64 t.2.2) ∧ w'.cell? (ad_B.add (k * 3)) = some (.string t.1) ∧ w'.cell? ⟨(ad_B.add (k * 3)).block, (ad_B.add (k * 3)).off + 1, none⟩ = some (.int .i64 t.2.1) ∧ w'.cell? ⟨(ad_B.add (k * 3)).block, (ad_B.add (k * 3)).off + 2, none⟩ = some (.int .i64 t.2.2)) [8] ⟨HS.out.old H0t.out, HS.out.old H1t.out, HS.out.old H2t.out, HS.out.old H0u.out, HS.out.old H1u.out, HS.out.old H2u.out⟩ (fun hHeld => ?_)
      repeat (first | ((with_reducible refine gate_p ?_); refine rp rfl rfl ?_) | ((with_reducible refine gate_t ?_); refine rt rfl rfl hHeld ?_))
      refine run_d rfl (fun K hK => ?_)
      refine gc Try.func156 (lawEqTerm t.1 t.2.1 t.2.2 _) rfl rfl ?_
      rintro e_ w1 ⟨rfl, hb⟩
      refine ⟨_, rfl, ?_⟩
      replace HS := sB HS hb
      clear hb
      refine gd hK ?_
      clear hK K
      repeat (first | ((with_reducible refine gate_p ?_); refine rp rfl rfl ?_) | ((with_reducible refine gate_t ?_); refine rt rfl rfl hHeld ?_))
      refine run_done ?_
      clear hHeld
      go_wp2
      go_roundw
      case rel => exact ⟨k + 1, by omega, by go_num, HS⟩
      case measure => simp [intOf]; omega
    · skip
      go_wp2
      go_ret
      exact ⟨rfl, HS.out.below⟩
set_option maxHeartbeats 4000000 in
theorem lawEqSeries (d n : Int) (A B : Option Addr) (c c' : Nat) (l : Ts) (w : World) (hr : KT.C w A l.length l) (hr2 : KT.C w B l.length l) (hm : l.length ≤ 1048576) :
    Calls Try.prog 16 #[.agg #[.int .i64 d, .int .i64 n, .slice A l.length c], .agg #[.int .i64 d, .int .i64 n, .slice B l.length c']] w fun e w' => e = .returned (.bool true) ∧ Below w.heap.size w w' := by
  have HR := Aside0.mk hr
  have HR2 := Aside0.mk hr2
  have HS := Aside0.mk (Sep.refl w)
  have h1 : (d != d) = false := by simp
  have h2 : (n != n) = false := by simp
  clear hr hr2
  go_enter Try.func16, Try.ntmps16
  go_wp2_with (first | ((with_reducible refine gate_dst (N := 2) rfl ?_); refine bxL 24 #[.int .i64 d, .int .i64 n, .slice A l.length c] HS ?_; clear HS; intro g_a w1 hg_a HS) | ((with_reducible refine gate_dst (N := 3) rfl ?_); refine bxL 24 #[.int .i64 d, .int .i64 n, .slice B l.length c'] HS ?_; clear HS; intro g_b w1 hg_b HS; have f1_ := HS.out.c 1 0 (v := .int .i64 d) rfl rfl; have f2_ := HS.out.c 0 0 (v := .int .i64 d) rfl rfl; have f3_ := HS.out.c 1 1 (v := .int .i64 n) rfl rfl; have f4_ := HS.out.c 0 1 (v := .int .i64 n) rfl rfl; have f5_ := HS.out.c 1 2 (v := .slice A l.length c) rfl rfl; have f6_ := HS.out.c 0 2 (v := .slice B l.length c') rfl rfl) | (go_at_call 90; refine (lawEqTermS A B c c' l _ (HS.out.oldC HR.out) (HS.out.oldC HR2.out) hm).mono ?_; rintro e_ w1 ⟨rfl, hb⟩; replace HS := sB HS hb; clear hb f1_ f2_ f3_ f4_ f5_ f6_))
  go_ret
  exact ⟨rfl, HS.out.below⟩
set_option maxHeartbeats 4000000 in
theorem lawSzSeries (d n : Int) (A : Option Addr) (c : Nat) (l : Ts) (left : Int) (w : World) (hr : KT.C w A l.length l) (hm : l.length ≤ 9223372036854775807) (hz : ∀ t ∈ l, t.1.size ≤ 9223372036854775807) (h0 : 0 ≤ left) (h1 : left ≤ 1048576) :
    Calls Try.prog 19 #[.agg #[.int .i64 d, .int .i64 n, .slice A l.length c], .int .i64 left] w (SzR l left w) := by
  have HR := Aside0.mk hr
  have HZ := Aside0.mk hz
  have HS := Aside0.mk (Sep.refl w)
  clear hr hz
  go_enter Try.func19, Try.ntmps19
  go_wp2_with (first | ((with_reducible refine gate_dst (N := 2) rfl ?_); refine bxL 32 #[.int .i64 d, .int .i64 n, .slice A l.length c] HS ?_; clear HS; intro g_x w1 hg_x HS; have f1_ := HS.out.c 0 2 (v := .slice A l.length c) rfl rfl) | (go_at_call 93; refine (lawSzTermS A c l left _ (HS.out.oldC HR.out) hm HZ.out h0 h1).mono ?_; rintro e_ w1 ⟨v, rfl, hv1, hv2, hv3, hb⟩; replace HS := sB HS hb; clear hb f1_))
  · refine bodyPost_ret (results_tmp (by rfl) _ _ _) rfl ?_
    exact ⟨-1, rfl, by omega, by omega, fun h => by omega, HS.out.below⟩
  · refine bodyPost_ret (results_tmp (by rfl) _ _ _) rfl ?_
    exact ⟨v, rfl, hv1, hv2, hv3, HS.out.below⟩
/-- The same, with a bare sum. -/
abbrev rowM (A : Option Addr) (c k n : Nat) : As := rw' KT rfl 66 (.slice A n c) (mkd k n)
theorem lawMarkO (d n : Int) (A : Option Addr) (c : Nat) (l : Ts) (k K : Nat) (hK : K = k + 3 * l.length) (w : World) (hR : (rowT A c l).I w) (hl : l.length ≤ 1048576) (hk0 : 0 < k) (hk1 : k ≤ 10000000) :
    Calls Try.prog 17 #[.agg #[.int .i64 d, .int .i64 n, .slice A l.length c], .int .i64 (k : Int)] w fun e w' => e = .returned (.int .i64 (K : Int)) ∧ Mod w w' (rowT A c l).S [rowM A c k l.length] := by
  subst hK
  exact lawMarkSeries d n A c l k w hR hl hk0 hk1
theorem lawHeldO (d n : Int) (A : Option Addr) (c m : Nat) (k K : Nat) (hK : K = k + 3 * m) (w : World) (hr : KT.C w A m (mkd k m)) (hl : m ≤ 1048576) (hk0 : 0 < k) (hk1 : k ≤ 10000000) :
    Calls Try.prog 18 #[.agg #[.int .i64 d, .int .i64 n, .slice A m c], .int .i64 (k : Int)] w fun e w' => e = .returned (.int .i64 (K : Int)) ∧ Below w.heap.size w w' := by
  subst hK
  exact lawHeldSeries d n A c m k w hr hl hk0 hk1
theorem Mod.readsM {w W : World} {S : Nat → Prop} {L : List As} (h : Mod w W S L) (i : Nat) {A : Option Addr} {c k n : Nat} (hi : L[i]? = some (rowM A c k n)) : KT.C W A n (mkd k n) := by
  have := h.reads i hi
  rwa [mkd_length] at this
end Go.Proofs.Ytaheikponfmdiaa.H

