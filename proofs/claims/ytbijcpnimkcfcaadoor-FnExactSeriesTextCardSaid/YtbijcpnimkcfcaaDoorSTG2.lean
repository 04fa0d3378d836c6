/- Plain facts and contracts of functions that the law's walk uses. Conditions: those that stand in each statement. -/
import Derived.Test.YtbijcpnimkcfcaaDoorSTG1
import Derived.WalkLawsBesides
import Derived.Shelf.Strconv.Itoa0
import Derived.Shelf.Strconv.Itoa1
import Derived.Shelf.LaysM
import Derived.Shelf.Strconv.Itoa2
import Derived.Shelf.Strconv.Itoa3
import Derived.Shelf.Strconv.Itoa4
import Derived.Shelf.Strconv.ParseIntEmpty
import Derived.Shelf.Strconv.Clone
import Derived.Shelf.Strconv.Lower
import Derived.Shelf.Strconv.ParseUint10Empty
import Derived.Shelf.Strconv.ParseUintEmpty
import Derived.Test.YtbijcpnimkcfcaaDoorProg
import Derived.Lib.AppendIntMem
import Derived.Test.YtbijcpnimkcfcaaDoorRows
import Derived.Stop.LaidErr
import Derived.Shelf.Strings.Builder1
import Derived.Shelf.Strings.Builder2
import Derived.Shelf.Strings.OnBuilder
import Derived.Shelf.Small.Strs
import Derived.Shelf.Strings.BuilderF
import Derived.Shelf.Strings.BuilderK
import Derived.Shelf.Utf8.RuneCount
import Derived.Shelf.Strings.Builder2Cap
import Derived.Shelf.Strconv.SyntaxError
import Derived.Shelf.LaysC
import Derived.Shelf.Strconv.ToError
import Derived.Shelf.Strconv.ParseUint10
import Derived.Shelf.Strconv.ParseUint10Any
import Derived.Shelf.Strconv.ParseInt10
import Derived.Shelf.Strconv.RangeError
import Derived.Shelf.Strconv.ToErrorRange
import Derived.Shelf.Strconv.ParseUint10b64
import Derived.Shelf.Strconv.ParseUint10b32
import Derived.Shelf.Strconv.ParseUint10b16
import Derived.Shelf.Strconv.ParseUint10b8
import Derived.Shelf.Strconv.ParseUint10At
import Derived.Shelf.Strconv.ParseInt10At64
import Derived.Shelf.Strconv.ParseInt10At32
import Derived.Shelf.Strconv.ParseInt10At16
import Derived.Shelf.Strconv.ParseInt10At8
import Derived.Shelf.Strconv.ParseInt10All
import Derived.Shelf.Strconv.ParseIntPublic10
import Derived.Shelf.Strconv.ErrVarParseInt
import Derived.Shelf.Strings.Search1
import Derived.Shelf.Strings.Search2
import Derived.Shelf.Strings.Search3
import Derived.Shelf.Strings.Cut
import Derived.Shelf.Strings.Count
import Derived.Shelf.Strings.Shaped
import Derived.Shelf.Strings.Split
import Derived.Shelf.Strings.SplitShaped
import Derived.Shelf.Unicode.Decode
import Derived.Shelf.Strings.RuneCount
import Derived.Shelf.Strings.Explode
import Derived.Shelf.Unicode.DecodeSlow
import Derived.Shelf.Unicode.DecodeAny
set_option linter.unusedVariables false
set_option linter.unusedSimpArgs false
namespace Go.Proofs.YtbijcpnimkcfcaaDoor.H
open Go.RowKit Go.Proofs.YtbijcpnimkcfcaaDoorW.PrintWords Go.Proofs.YtbijcpnimkcfcaaDoorW.PrintLast Go.Proofs.YtbijcpnimkcfcaaDoorW.PrintMore Go.Proofs.YtbijcpnimkcfcaaDoor.M
attribute [local go_sem] max2_int min2_int max_two min_two max_three min_three max_four min_four
set_option linter.unusedVariables false
set_option linter.unusedSimpArgs false
set_option maxRecDepth 100000
set_option maxHeartbeats 4000000 in
theorem lawSzTerm (s : ByteArray) (x y left : Int) (w : World) (hs : s.size ≤ 9223372036854775807) (h0 : 0 ≤ left) (h1 : left ≤ 1048576) (h : (s.size : Int) ≤ left) :
    Calls Tryd.prog 82 #[.agg #[.string s, .int .i64 x, .int .i64 y], .int .i64 left] w fun e w' => e = .returned (.int .i64 (left - s.size)) ∧ Below w.heap.size w w' := by
  have HS := Aside0.mk (Sep.refl w)
  have h2 : ¬ (left - (s.size : Int) < 0) := by omega
  go_enter Tryd.func82, Tryd.ntmps82
  go_wp2_with (first | ((with_reducible refine gate_dst (N := 2) rfl ?_); refine bxL 96 #[.string s, .int .i64 x, .int .i64 y] HS ?_; clear HS; intro g_a w1 hg_a HS; have f1_ := HS.out.c 0 0 (v := .string s) rfl rfl))
  go_ret
  exact ⟨rfl, HS.out.below⟩
set_option maxHeartbeats 4000000 in
theorem lawSzTermN (s : ByteArray) (x y left : Int) (w : World) (hs : s.size ≤ 9223372036854775807) (h0 : 0 ≤ left) (h1 : left ≤ 1048576) (h : ¬ (s.size : Int) ≤ left) :
    Calls Tryd.prog 82 #[.agg #[.string s, .int .i64 x, .int .i64 y], .int .i64 left] w fun e w' => e = .returned (.int .i64 (-1)) ∧ Below w.heap.size w w' := by
  have HS := Aside0.mk (Sep.refl w)
  have h2 : left - (s.size : Int) < 0 := by omega
  go_enter Tryd.func82, Tryd.ntmps82
  go_wp2_with (first | ((with_reducible refine gate_dst (N := 2) rfl ?_); refine bxL 96 #[.string s, .int .i64 x, .int .i64 y] HS ?_; clear HS; intro g_a w1 hg_a HS; have f1_ := HS.out.c 0 0 (v := .string s) rfl rfl))
  go_ret
  exact ⟨rfl, HS.out.below⟩
def SzR (l : Ts) (left : Int) (w : World) (e : Ending) (w' : World) : Prop := ∃ v : Int, e = .returned (.int .i64 v) ∧ v ≤ left ∧ -1 ≤ v ∧ (0 ≤ v → bnd l = true) ∧ Below w.heap.size w w'
set_option maxHeartbeats 4000000 in
theorem lawSzTermS (A : Option Addr) (c : Nat) (l : Ts) (left : Int) (w : World) (hr : KT.C w A l.length l) (hm : l.length ≤ 9223372036854775807) (hz : ∀ t ∈ l, t.1.size ≤ 9223372036854775807) (h0 : 0 ≤ left) (h1 : left ≤ 1048576) :
    Calls Tryd.prog 43 #[.slice A l.length c, .int .i64 left] w (SzR l left w) := by
  have HR := Aside0.mk hr
  have HZ := Aside0.mk hz
  have HS := Aside0.mk (Sep.refl w)
  clear hr hz
  by_cases h : (l.length : Int) ≤ left
  · have h2 : ¬ (left - (l.length : Int) < 0) := by omega
    go_enter Tryd.func43, Tryd.ntmps43
    go_wp2
    go_loopw [1, 5] (fun x v w' => ∃ (k : Nat) (m : Int), k ≤ l.length ∧ v = .int .i64 (k : Int) ∧ x = .int .i64 m ∧ 0 ≤ m ∧ m ≤ left - l.length ∧ Aside0 (∀ j, j < k → (l.getD j zT).1.size ≤ 1048576) ∧ Aside0 (Mod w w' No [])) (fun _ v _ => l.length - (intOf v).toNat)
    case atStart => exact ⟨0, left - l.length, by omega, rfl, rfl, by omega, by omega, ⟨fun j hj => by omega⟩, HS⟩
    case round =>
      clear HS
      obtain ⟨k, m, hk, rfl, rfl, hm0, hm1, HY, HS⟩ := hrel
      by_cases hlt : k < l.length
      · have hs1 : (l.getD k zT).1.size ≤ 9223372036854775807 := by rw [getD_lt l zT k hlt]; exact HZ.out _ (List.getElem_mem _)
        obtain ⟨ad_A, ea_, h0_, h1_, h2_⟩ := tm_at HR.out k (hlt)
        cases ea_
        obtain ⟨t, ht_⟩ : ∃ t_, t_ = l.getD k zT := ⟨_, rfl⟩
        rw [← ht_] at h0_ h1_ h2_
        have Et := Aside0.mk ht_; have H0t := Aside0.mk h0_; have H1t := Aside0.mk h1_; have H2t := Aside0.mk h2_
        clear ht_ h0_ h1_ h2_
        rw [← Et.out] at hs1
        by_cases h3 : (t.1.size : Int) ≤ m
        · skip
          have h4 : ¬ (m - (t.1.size : Int) < 0) := by omega
          have f1_ := HS.out.old H0t.out
          have f2_ := HS.out.old H1t.out
          have f3_ := HS.out.old H2t.out
          go_wp2_with (first | (go_at_call 82; refine (lawSzTerm _ _ _ _ _ hs1 (by omega) (by omega) h3).mono ?_; rintro e_ w1 ⟨rfl, hb⟩; replace HS := sB HS hb; clear hb f1_ f2_ f3_))
          go_roundw
          case rel => exact ⟨k + 1, m - t.1.size, by omega, by go_num, rfl, by omega, by omega, ⟨round_next HY.out (by rw [← Et.out]; omega)⟩, HS⟩
          case measure => simp [intOf]; omega
        · skip
          have f1_ := HS.out.old H0t.out
          have f2_ := HS.out.old H1t.out
          have f3_ := HS.out.old H2t.out
          go_wp2_with (first | (go_at_call 82; refine (lawSzTermN _ _ _ _ _ hs1 (by omega) (by omega) h3).mono ?_; rintro e_ w1 ⟨rfl, hb⟩; replace HS := sB HS hb; clear hb f1_ f2_ f3_))
          refine bodyPost_ret (results_tmp (by rfl) _ _ _) rfl ?_
          exact ⟨-1, rfl, by omega, by omega, fun h => by omega, HS.out.below⟩
      · have HB := Aside0.mk (show bnd l = true from bnd_iff.2 ⟨by omega, fun t ht => by
          obtain ⟨j, hj, rfl⟩ := List.getElem_of_mem ht
          have := HY.out j (by omega)
          rwa [getD_lt l zT j hj] at this⟩)
        go_wp2
        refine bodyPost_ret (results_tmp (by rfl) _ _ _) rfl ?_
        exact ⟨m, rfl, by omega, by omega, fun _ => HB.out, HS.out.below⟩
  · have h2 : left - (l.length : Int) < 0 := by omega
    go_enter Tryd.func43, Tryd.ntmps43
    go_wp2
    refine bodyPost_ret (results_tmp (by rfl) _ _ _) rfl ?_
    exact ⟨-1, rfl, by omega, by omega, fun h => by omega, HS.out.below⟩
theorem lawFraction (x y : Int) (w : World) : Calls Tryd.prog 9 #[.agg #[.int .i64 x, .int .i64 y]] w fun e w' => e = .returned (.agg #[.int .i64 x, .int .i64 y]) ∧ Below w.heap.size w w' := by
  have HS := Aside0.mk (Sep.refl w)
  go_enter Tryd.func9, Tryd.ntmps9
  go_wp2_with (first | ((with_reducible refine gate_dst (N := 1) rfl ?_); refine bxL 23 #[.int .i64 x, .int .i64 y] HS ?_; clear HS; intro g_a w1 hg_a HS) | ((with_reducible refine gate_dst (N := 2) rfl ?_); refine bxL 26 #[(.int .i64 0), (.int .i64 0)] HS ?_; clear HS; intro g_r w1 hg_r HS) | ((with_reducible refine gate_dst (N := 3) rfl ?_); refine bxL 26 #[(.int .i64 0), (.int .i64 0)] HS ?_; clear HS; intro g_o w1 hg_o HS; have f1_ := HS.out.c 2 0 (v := .int .i64 x) rfl rfl) | ((with_reducible refine gate_store (t := 2) (p := 6) rfl ?_); refine stL HS 0 0 #[(.int .i64 x), (.int .i64 0)] rfl rfl rfl rfl rfl ?_; clear HS f1_; intro w1 HS; have f1_ := HS.out.c 2 1 (v := .int .i64 y) rfl rfl) | ((with_reducible refine gate_store (t := 2) (p := 9) rfl ?_); refine stL HS 0 1 #[(.int .i64 x), (.int .i64 y)] rfl rfl rfl rfl rfl ?_; clear HS f1_; intro w1 HS; have f1_ := HS.out.c 0 0 (v := (.int .i64 x)) rfl rfl; have f2_ := HS.out.c 0 1 (v := (.int .i64 y)) rfl rfl) | ((with_reducible refine gate_store (t := 26) (p := 2) rfl ?_); refine stL HS 1 0 #[(.int .i64 x), (.int .i64 y)] rfl rfl rfl rfl rfl ?_; clear HS f1_ f2_; intro w1 HS))
  refine bodyPost_ret (results_cell_row rfl _ _ g_r 26 #[(.int .i64 x), (.int .i64 y)] (0, 0) _ rfl (HS.out.at (i := 1) rfl) Tryd.underlying26 rfl (by kernel_rfl)) rfl ?_
  exact ⟨rfl, HS.out.below⟩
set_option maxHeartbeats 4000000 in
theorem lawTerm (s : ByteArray) (x y : Int) (w : World) : Calls Tryd.prog 85 #[.agg #[.string s, .int .i64 x, .int .i64 y]] w fun e w' => e = .returned (.agg #[.string s, .int .i64 x, .int .i64 y]) ∧ Below w.heap.size w w' := by
  have HS := Aside0.mk (Sep.refl w)
  go_enter Tryd.func85, Tryd.ntmps85
  go_wp2_with (first | ((with_reducible refine gate_dst (N := 1) rfl ?_); refine bxL 96 #[.string s, .int .i64 x, .int .i64 y] HS ?_; clear HS; intro g_a w1 hg_a HS) | ((with_reducible refine gate_dst (N := 2) rfl ?_); refine bxL 78 #[(.string ⟨#[]⟩), (.int .i64 0), (.int .i64 0)] HS ?_; clear HS; intro g_r w1 hg_r HS) | ((with_reducible refine gate_dst (N := 3) rfl ?_); refine bxL 78 #[(.string ⟨#[]⟩), (.int .i64 0), (.int .i64 0)] HS ?_; clear HS; intro g_o w1 hg_o HS; have f1_ := HS.out.c 2 0 (v := .string s) rfl rfl) | ((with_reducible refine gate_store (t := 9) (p := 6) rfl ?_); refine stL HS 0 0 #[(.string s), (.int .i64 0), (.int .i64 0)] rfl rfl rfl rfl rfl ?_; clear HS f1_; intro w1 HS; have f1_ := HS.out.c 2 1 (v := .int .i64 x) rfl rfl; have f2_ := HS.out.c 2 2 (v := .int .i64 y) rfl rfl) | (go_at_call 9; refine (lawFraction _ _ _).mono ?_; rintro e_ w1 ⟨rfl, hb⟩; replace HS := sB HS hb; clear hb f1_ f2_) | ((with_reducible refine gate_store (t := 26) (p := 10) rfl ?_); refine stL HS 0 1 #[(.string s), .int .i64 x, .int .i64 y] rfl rfl rfl rfl rfl ?_; clear HS; intro w1 HS; have f1_ := HS.out.c 0 0 (v := (.string s)) rfl rfl; have f2_ := HS.out.c 0 1 (v := .int .i64 x) rfl rfl; have f3_ := HS.out.c 0 2 (v := .int .i64 y) rfl rfl) | ((with_reducible refine gate_store (t := 78) (p := 2) rfl ?_); refine stL HS 1 0 #[(.string s), .int .i64 x, .int .i64 y] rfl rfl rfl rfl rfl ?_; clear HS f1_ f2_ f3_; intro w1 HS))
  refine bodyPost_ret (results_cell_row rfl _ _ g_r 78 #[(.string s), .int .i64 x, .int .i64 y] (0, 0) _ rfl (HS.out.at (i := 1) rfl) Tryd.underlying78 rfl (by kernel_rfl)) rfl ?_
  exact ⟨rfl, HS.out.below⟩
theorem list_done {l y : Ts} (hl : y.length = l.length) (h : ∀ j, j < l.length → y.getD j zT = l.getD j zT) : y = l := by
  apply List.ext_getElem hl
  intro j h1 h2
  have := h j h2
  rwa [getD_lt _ _ _ h1, getD_lt _ _ _ h2] at this
theorem getD_set {l : Ts} {k j : Nat} {t : Tm} (hk : k < l.length) : (l.set k t).getD j zT = if j = k then t else l.getD j zT := by
  rw [List.getD_eq_getElem?_getD, List.getD_eq_getElem?_getD, List.getElem?_set]
  by_cases h : k = j
  · subst h; simp [hk]
  · rw [if_neg h, if_neg (Ne.symm h)]
set_option maxHeartbeats 8000000 in
theorem lawTermS (A : Option Addr) (c : Nat) (l : Ts) (w : World) (hr : KT.C w A l.length l) (hm : l.length ≤ 1048576) :
    Calls Tryd.prog 46 #[.slice A l.length c] w fun e w' => ∃ A' c', e = .returned (.slice A' l.length c') ∧ Sep w w' [rw' KT rfl 78 (.slice A' l.length c') l] := by
  have HR := Aside0.mk hr
  have HS := Aside0.mk (Sep.refl w)
  clear hr
  go_enter Tryd.func46, Tryd.ntmps46
  go_wp2_with (first | ((with_reducible refine gate_dst (N := 7) rfl ?_); refine wpList_stp (fun K hK => ?_); refine stp_make (KT) rfl 78 (by rfl) HS rfl 34 _ _ rfl l.length rfl rfl Tryd.underlying34 _ 32 infoTerm rfl zT (KT_M zT) (by omega) ?_; clear HS; intro A_o c_o w1 HS; refine hK _ _ ?_; clear hK K))
  by_cases hz : l.length = 0
  · have he : List.replicate l.length zT = l := by rw [List.eq_nil_of_length_eq_zero hz]; rfl
    rw [he] at HS
    have hn : ¬ (0 < l.length) := by omega
    clear hz he
    go_loopw [4] (fun v w' => v = .int .i64 0 ∧ Aside0 (Mod w w' No [rw' KT rfl 78 (.slice A_o l.length c_o) l])) (fun v _ => 0)
    case atStart => exact ⟨rfl, HS⟩
    case round =>
      clear HS
      obtain ⟨rfl, HS⟩ := hrel
      go_wp2
      go_ret
      exact ⟨A_o, c_o, rfl, HS.out⟩
  · obtain ⟨g_o, sp, rfl, hI, hlen, hcm⟩ := R_tr (HS.out.rowAt 0 rfl) (by simp) (by simp; omega)
    have n_ := Aside0.mk (HS.out.asBlock (i := 0) rfl hI)
    clear HS hI
    have HS := n_
    clear n_
    simp only [List.set_cons_zero] at HS
    have HC := Aside0.mk hlen
    clear hlen hz
    go_loopw [4] (fun v w' => ∃ (k : Nat) (y : Ts), k ≤ l.length ∧ v = .int .i64 (k : Int) ∧ y.length = l.length ∧ Aside0 (∀ j, j < k → y.getD j zT = l.getD j zT) ∧ Aside0 (Mod w w' No [tr g_o 78 y sp])) (fun v _ => l.length - (intOf v).toNat)
    case atStart => exact ⟨0, _, by omega, rfl, by simp, ⟨fun j hj => by omega⟩, HS⟩
    case round =>
      clear HS
      obtain ⟨k, y, hk, rfl, hy, HY, HS⟩ := hrel
      by_cases hlt : k < l.length
      · skip
        obtain ⟨ad_A, ea_, h0_, h1_, h2_⟩ := tm_at HR.out k (hlt)
        cases ea_
        obtain ⟨t, ht_⟩ : ∃ t_, t_ = l.getD k zT := ⟨_, rfl⟩
        rw [← ht_] at h0_ h1_ h2_
        have Et := Aside0.mk ht_; have H0t := Aside0.mk h0_; have H1t := Aside0.mk h1_; have H2t := Aside0.mk h2_
        clear ht_ h0_ h1_ h2_
        have hky : k < y.length := by omega
        obtain ⟨y', hy'⟩ : ∃ y', y' = y.set k t := ⟨_, rfl⟩
        have HY' := Aside0.mk hy'
        have hyl : y'.length = l.length := by rw [hy', List.length_set]; exact hy
        clear hy'
        have f1_ := HS.out.old H0t.out
        have f2_ := HS.out.old H1t.out
        have f3_ := HS.out.old H2t.out
        go_wp2_with (first | (go_at_call 85; refine (lawTerm _ _ _ _).mono ?_; rintro e_ w1 ⟨rfl, hb⟩; replace HS := sB HS hb; clear hb f1_ f2_ f3_) | ((with_reducible refine gate_store (t := 78) (p := 21) rfl ?_); refine wpList_stp (fun K hK => ?_); refine stp_put_term (by rfl) rfl rfl HS 0 rfl k hky t rfl rfl (by kernel_rfl) ?_; clear HS; intro w1 HS; simp only [List.set_cons_zero] at HS; rw [← HY'.out] at HS; refine hK _ _ ?_; clear hK K))
        go_roundw
        case rel => exact ⟨k + 1, y', by omega, by go_num, hyl, ⟨round_next (fun j hj => by rw [HY'.out, getD_set hky, if_neg (by omega)]; exact HY.out j hj) (by rw [HY'.out, getD_set hky, if_pos rfl, Et.out])⟩, HS⟩
        case measure => simp [intOf]; omega
      · obtain rfl : y = l := list_done hy (fun j hj => HY.out j (by omega))
        go_wp2
        go_ret
        exact ⟨_, c_o, rfl, (HS.out.asRow (i := 0) rfl (cap := c_o) (by have := HC.out; rw [List.length_append, flat_length] at this ⊢; rw [List.length_replicate] at this; omega) hcm)⟩
end Go.Proofs.YtbijcpnimkcfcaaDoor.H
namespace Go.Proofs.YtbijcpnimkcfcaaDoor.M
end Go.Proofs.YtbijcpnimkcfcaaDoor.M
namespace Go.Proofs.YtbijcpnimkcfcaaDoor.H
open Go.RowKit Go.Proofs.YtbijcpnimkcfcaaDoorW.PrintWords Go.Proofs.YtbijcpnimkcfcaaDoorW.PrintLast Go.Proofs.YtbijcpnimkcfcaaDoorW.PrintMore Go.Proofs.YtbijcpnimkcfcaaDoor.M
attribute [local go_sem] max2_int min2_int max_two min_two max_three min_three max_four min_four
set_option linter.unusedVariables false
set_option linter.unusedSimpArgs false
set_option maxRecDepth 100000
theorem u8_small (x : Int) (h0 : 0 ≤ x) (h1 : x < 256) : IntKind.u8.wrap x = x := IntWalk.u8_in x ⟨h0, by omega⟩
theorem byte_string (W : World) (x : Int) : (convert 48 9 (.slice (some ⟨W.heap.size, 0, none⟩) 1 1)).run Tryd.prog (W.alloc (.cells #[.int .u8 x] 5)) = .ok (.string (strOfNums [x])) (W.alloc (.cells #[.int .u8 x] 5)) := by
  have h := own_lit W 0 5 .u8 [x] (Nat.zero_le _) (by simp)
  exact own_string Tryd.underlying48 Tryd.underlying5 Tryd.underlying9 h
end Go.Proofs.YtbijcpnimkcfcaaDoor.H
namespace Go.Proofs.YtbijcpnimkcfcaaDoor.H
open Go.RowKit Go.Proofs.YtbijcpnimkcfcaaDoorW.PrintWords Go.Proofs.YtbijcpnimkcfcaaDoorW.PrintLast Go.Proofs.YtbijcpnimkcfcaaDoorW.PrintMore Go.Proofs.YtbijcpnimkcfcaaDoor.M
attribute [local go_sem] max2_int min2_int max_two min_two max_three min_three max_four min_four
set_option linter.unusedVariables false
set_option linter.unusedSimpArgs false
set_option maxRecDepth 100000
abbrev rowT (A : Option Addr) (c : Nat) (l : Ts) : As := rw' KT rfl 78 (.slice A l.length c) l
set_option maxHeartbeats 4000000 in
theorem lawSeries (d n : Int) (A : Option Addr) (c : Nat) (l : Ts) (w : World) (hr : KT.C w A l.length l) (hm : l.length ≤ 1048576) :
    Calls Tryd.prog 13 #[.agg #[.int .i64 d, .int .i64 n, .slice A l.length c]] w fun e w' => ∃ A' c', e = .returned (.agg #[.int .i64 d, .int .i64 n, .slice A' l.length c']) ∧ Sep w w' [rowT A' c' l] := by
  have HR := Aside0.mk hr
  have HS := Aside0.mk (Sep.refl w)
  clear hr
  go_enter Tryd.func13, Tryd.ntmps13
  go_wp2_with (first | ((with_reducible refine gate_dst (N := 1) rfl ?_); refine bxL 31 #[.int .i64 d, .int .i64 n, .slice A l.length c] HS ?_; clear HS; intro g_a w1 hg_a HS) | ((with_reducible refine gate_dst (N := 2) rfl ?_); refine bxL 36 #[(.int .i64 0), (.int .i64 0), (.slice none 0 0)] HS ?_; clear HS; intro g_r w1 hg_r HS) | ((with_reducible refine gate_dst (N := 3) rfl ?_); refine bxL 36 #[(.int .i64 0), (.int .i64 0), (.slice none 0 0)] HS ?_; clear HS; intro g_o w1 hg_o HS; have f1_ := HS.out.c 2 0 (v := .int .i64 d) rfl rfl) | ((with_reducible refine gate_store (t := 2) (p := 6) rfl ?_); refine stL HS 0 0 #[(.int .i64 d), (.int .i64 0), (.slice none 0 0)] rfl rfl rfl rfl rfl ?_; clear HS f1_; intro w1 HS; have f1_ := HS.out.c 2 1 (v := .int .i64 n) rfl rfl) | ((with_reducible refine gate_store (t := 2) (p := 9) rfl ?_); refine stL HS 0 1 #[(.int .i64 d), (.int .i64 n), (.slice none 0 0)] rfl rfl rfl rfl rfl ?_; clear HS f1_; intro w1 HS; have f1_ := HS.out.c 2 2 (v := .slice A l.length c) rfl rfl) | (go_at_call 46; refine (lawTermS A c l _ (HS.out.oldC HR.out) hm).mono ?_; rintro e_ w1 ⟨A1, c1, rfl, hs⟩; replace HS := sN1 HS hs; clear hs f1_) | ((with_reducible refine gate_store (t := 34) (p := 13) rfl ?_); refine stL HS 1 2 #[(.int .i64 d), (.int .i64 n), (.slice A1 l.length c1)] rfl rfl rfl rfl rfl ?_; clear HS; intro w1 HS; have f1_ := HS.out.c 1 0 (v := (.int .i64 d)) rfl rfl; have f2_ := HS.out.c 1 1 (v := (.int .i64 n)) rfl rfl; have f3_ := HS.out.c 1 2 (v := (.slice A1 l.length c1)) rfl rfl) | ((with_reducible refine gate_store (t := 36) (p := 2) rfl ?_); refine stL HS 2 0 #[(.int .i64 d), (.int .i64 n), (.slice A1 l.length c1)] rfl rfl rfl rfl rfl ?_; clear HS f1_ f2_ f3_; intro w1 HS))
  refine bodyPost_ret (results_cell_row rfl _ _ g_r 36 #[(.int .i64 d), (.int .i64 n), (.slice A1 l.length c1)] (0, 0) _ rfl (HS.out.at (i := 2) rfl) Tryd.underlying36 rfl (by kernel_rfl)) rfl ?_
  replace HS : Aside0 (Mod _ _ _ [_]) := sX HS [0]
  exact ⟨A1, c1, rfl, HS.out⟩
theorem lawEqFraction (x y : Int) (w : World) : Calls Tryd.prog 18 #[.agg #[.int .i64 x, .int .i64 y], .agg #[.int .i64 x, .int .i64 y]] w fun e w' => e = .returned (.bool true) ∧ Below w.heap.size w w' := by
  have HS := Aside0.mk (Sep.refl w)
  have h1 : (x != x) = false := by simp
  have h2 : (y != y) = false := by simp
  go_enter Tryd.func18, Tryd.ntmps18
  go_wp2_with (first | ((with_reducible refine gate_dst (N := 2) rfl ?_); refine bxL 26 #[.int .i64 x, .int .i64 y] HS ?_; clear HS; intro g_a w1 hg_a HS) | ((with_reducible refine gate_dst (N := 3) rfl ?_); refine bxL 26 #[.int .i64 x, .int .i64 y] HS ?_; clear HS; intro g_b w1 hg_b HS; have f1_ := HS.out.c 1 0 (v := .int .i64 x) rfl rfl; have f2_ := HS.out.c 0 0 (v := .int .i64 x) rfl rfl; have f3_ := HS.out.c 1 1 (v := .int .i64 y) rfl rfl; have f4_ := HS.out.c 0 1 (v := .int .i64 y) rfl rfl))
  go_ret
  exact ⟨rfl, HS.out.below⟩
set_option maxHeartbeats 4000000 in
theorem lawEqTerm (s : ByteArray) (x y : Int) (w : World) : Calls Tryd.prog 88 #[.agg #[.string s, .int .i64 x, .int .i64 y], .agg #[.string s, .int .i64 x, .int .i64 y]] w fun e w' => e = .returned (.bool true) ∧ Below w.heap.size w w' := by
  have HS := Aside0.mk (Sep.refl w)
  have h1 : (s.toList != s.toList) = false := by simp
  go_enter Tryd.func88, Tryd.ntmps88
  go_wp2_with (first | ((with_reducible refine gate_dst (N := 2) rfl ?_); refine bxL 78 #[.string s, .int .i64 x, .int .i64 y] HS ?_; clear HS; intro g_a w1 hg_a HS) | ((with_reducible refine gate_dst (N := 3) rfl ?_); refine bxL 78 #[.string s, .int .i64 x, .int .i64 y] HS ?_; clear HS; intro g_b w1 hg_b HS; have f1_ := HS.out.c 1 0 (v := .string s) rfl rfl; have f2_ := HS.out.c 0 0 (v := .string s) rfl rfl; have f3_ := HS.out.c 1 1 (v := .int .i64 x) rfl rfl; have f4_ := HS.out.c 1 2 (v := .int .i64 y) rfl rfl; have f5_ := HS.out.c 0 1 (v := .int .i64 x) rfl rfl; have f6_ := HS.out.c 0 2 (v := .int .i64 y) rfl rfl) | (go_at_call 18; refine (lawEqFraction x y _).mono ?_; rintro e_ w1 ⟨rfl, hb⟩; replace HS := sB HS hb; clear hb f1_ f2_ f3_ f4_ f5_ f6_))
  go_ret
  exact ⟨rfl, HS.out.below⟩
set_option maxHeartbeats 4000000 in
theorem lawEqTermS (A B : Option Addr) (c c' : Nat) (l : Ts) (w : World) (hr : KT.C w A l.length l) (hr2 : KT.C w B l.length l) (hm : l.length ≤ 1048576) :
    Calls Tryd.prog 49 #[.slice A l.length c, .slice B l.length c'] w fun e w' => e = .returned (.bool true) ∧ Below w.heap.size w w' := by
  have HR := Aside0.mk hr
  have HR2 := Aside0.mk hr2
  have HS := Aside0.mk (Sep.refl w)
  have h1 : ((l.length : Int) != (l.length : Int)) = false := by simp
  clear hr hr2
  go_enter Tryd.func49, Tryd.ntmps49
  go_wp2
  go_loopw [5] (fun v w' => ∃ k : Nat, k ≤ l.length ∧ v = .int .i64 (k : Int) ∧ Aside0 (Mod w w' No [])) (fun v _ => l.length - (intOf v).toNat)
  case atStart => exact ⟨0, by omega, rfl, HS⟩
  case round =>
    clear HS
    obtain ⟨k, hk, rfl, HS⟩ := hrel
    by_cases hlt : k < l.length
    · skip
      obtain ⟨ad_A, ea_, h0_, h1_, h2_⟩ := tm_at HR.out k (hlt)
      cases ea_
      obtain ⟨t, ht_⟩ : ∃ t_, t_ = l.getD k zT := ⟨_, rfl⟩
      rw [← ht_] at h0_ h1_ h2_
      have Et := Aside0.mk ht_; have H0t := Aside0.mk h0_; have H1t := Aside0.mk h1_; have H2t := Aside0.mk h2_
      clear ht_ h0_ h1_ h2_
      obtain ⟨ad_B, ea_, h0_, h1_, h2_⟩ := tm_at HR2.out k (hlt)
      cases ea_
      rw [← Et.out] at h0_ h1_ h2_
      have H0u := Aside0.mk h0_; have H1u := Aside0.mk h1_; have H2u := Aside0.mk h2_
      clear h0_ h1_ h2_
      have hq0 : (0 : Int) ≤ k := by omega
      have hq1 : (k : Int) < l.length := by omega
      go_wp2
      replace HS := sD HS
      refine ps (.p 0 (.p 1 (.p 2 (.p 4 (.p 5 (.p 6 (.t 3 (.t 7 (.d 8 (.p 9 .done)))))))))) (fun w' => w'.cell? (ad_A.add (k * 3)) = some (.string t.1) ∧ w'.cell? ⟨(ad_A.add (k * 3)).block, (ad_A.add (k * 3)).off + 1, none⟩ = some (.int .i64 t.2.1) ∧ w'.cell? ⟨(ad_A.add (k * 3)).block, (ad_A.add (k * 3)).off + 2, none⟩ = some (.int .i64 t.2.2) ∧ w'.cell? (ad_B.add (k * 3)) = some (.string t.1) ∧ w'.cell? ⟨(ad_B.add (k * 3)).block, (ad_B.add (k * 3)).off + 1, none⟩ = some (.int .i64 t.2.1) ∧ w'.cell? ⟨(ad_B.add (k * 3)).block, (ad_B.add (k * 3)).off + 2, none⟩ = some (.int .i64 t.2.2)) [8] ⟨HS.out.old H0t.out, HS.out.old H1t.out, HS.out.old H2t.out, HS.out.old H0u.out, HS.out.old H1u.out, HS.out.old H2u.out⟩ (fun hHeld => ?_)
      repeat (first | ((with_reducible refine gate_p ?_); refine rp rfl rfl ?_) | ((with_reducible refine gate_t ?_); refine rt rfl rfl hHeld ?_))
      refine run_d rfl (fun K hK => ?_)
      refine gc Tryd.func88 (lawEqTerm t.1 t.2.1 t.2.2 _) rfl rfl ?_
      rintro e_ w1 ⟨rfl, hb⟩
      refine ⟨_, rfl, ?_⟩
      replace HS := sB HS hb
      clear hb
      refine gd hK ?_
      clear hK K
      repeat (first | ((with_reducible refine gate_p ?_); refine rp rfl rfl ?_) | ((with_reducible refine gate_t ?_); refine rt rfl rfl hHeld ?_))
      refine run_done ?_
      clear hHeld
      go_wp2
      go_roundw
      case rel => exact ⟨k + 1, by omega, by go_num, HS⟩
      case measure => simp [intOf]; omega
    · skip
      go_wp2
      go_ret
      exact ⟨rfl, HS.out.below⟩
set_option maxHeartbeats 4000000 in
theorem lawEqSeries (d n : Int) (A B : Option Addr) (c c' : Nat) (l : Ts) (w : World) (hr : KT.C w A l.length l) (hr2 : KT.C w B l.length l) (hm : l.length ≤ 1048576) :
    Calls Tryd.prog 15 #[.agg #[.int .i64 d, .int .i64 n, .slice A l.length c], .agg #[.int .i64 d, .int .i64 n, .slice B l.length c']] w fun e w' => e = .returned (.bool true) ∧ Below w.heap.size w w' := by
  have HR := Aside0.mk hr
  have HR2 := Aside0.mk hr2
  have HS := Aside0.mk (Sep.refl w)
  have h1 : (d != d) = false := by simp
  have h2 : (n != n) = false := by simp
  clear hr hr2
  go_enter Tryd.func15, Tryd.ntmps15
  go_wp2_with (first | ((with_reducible refine gate_dst (N := 2) rfl ?_); refine bxL 36 #[.int .i64 d, .int .i64 n, .slice A l.length c] HS ?_; clear HS; intro g_a w1 hg_a HS) | ((with_reducible refine gate_dst (N := 3) rfl ?_); refine bxL 36 #[.int .i64 d, .int .i64 n, .slice B l.length c'] HS ?_; clear HS; intro g_b w1 hg_b HS; have f1_ := HS.out.c 1 0 (v := .int .i64 d) rfl rfl; have f2_ := HS.out.c 0 0 (v := .int .i64 d) rfl rfl; have f3_ := HS.out.c 1 1 (v := .int .i64 n) rfl rfl; have f4_ := HS.out.c 0 1 (v := .int .i64 n) rfl rfl; have f5_ := HS.out.c 1 2 (v := .slice A l.length c) rfl rfl; have f6_ := HS.out.c 0 2 (v := .slice B l.length c') rfl rfl) | (go_at_call 49; refine (lawEqTermS A B c c' l _ (HS.out.oldC HR.out) (HS.out.oldC HR2.out) hm).mono ?_; rintro e_ w1 ⟨rfl, hb⟩; replace HS := sB HS hb; clear hb f1_ f2_ f3_ f4_ f5_ f6_))
  go_ret
  exact ⟨rfl, HS.out.below⟩
set_option maxHeartbeats 4000000 in
theorem lawSzSeries (d n : Int) (A : Option Addr) (c : Nat) (l : Ts) (left : Int) (w : World) (hr : KT.C w A l.length l) (hm : l.length ≤ 9223372036854775807) (hz : ∀ t ∈ l, t.1.size ≤ 9223372036854775807) (h0 : 0 ≤ left) (h1 : left ≤ 1048576) :
    Calls Tryd.prog 11 #[.agg #[.int .i64 d, .int .i64 n, .slice A l.length c], .int .i64 left] w (SzR l left w) := by
  have HR := Aside0.mk hr
  have HZ := Aside0.mk hz
  have HS := Aside0.mk (Sep.refl w)
  clear hr hz
  go_enter Tryd.func11, Tryd.ntmps11
  go_wp2_with (first | ((with_reducible refine gate_dst (N := 2) rfl ?_); refine bxL 31 #[.int .i64 d, .int .i64 n, .slice A l.length c] HS ?_; clear HS; intro g_x w1 hg_x HS; have f1_ := HS.out.c 0 2 (v := .slice A l.length c) rfl rfl) | (go_at_call 43; refine (lawSzTermS A c l left _ (HS.out.oldC HR.out) hm HZ.out h0 h1).mono ?_; rintro e_ w1 ⟨v, rfl, hv1, hv2, hv3, hb⟩; replace HS := sB HS hb; clear hb f1_))
  · refine bodyPost_ret (results_tmp (by rfl) _ _ _) rfl ?_
    exact ⟨-1, rfl, by omega, by omega, fun h => by omega, HS.out.below⟩
  · refine bodyPost_ret (results_tmp (by rfl) _ _ _) rfl ?_
    exact ⟨v, rfl, hv1, hv2, hv3, HS.out.below⟩
end Go.Proofs.YtbijcpnimkcfcaaDoor.H


namespace Go.Proofs
open Go.Shelf
def Tryd.laysM173_ren : Go.Shelf.Ren := ⟨fun | 173 => 100 | 246 => 113 | 283 => 129 | 284 => 130 | 285 => 131 | 286 => 132 | 129 => 145 | 317 => 144 | 318 => 146 | 319 => 147 | 320 => 148 | 337 => 151 | 338 => 152 | n => n, fun | 2 => 2 | 3 => 3 | 9 => 9 | 4 => 4 | 171 => 145 | 0 => 0 | 53 => 112 | 37 => 48 | 5 => 5 | 173 => 148 | 212 => 162 | 51 => 153 | 20 => 20 | 213 => 163 | 46 => 119 | 232 => 174 | 233 => 175 | n => n, fun | 17 => 3 | 18 => 6 | 19 => 7 | n => n⟩
theorem Tryd.laysM173 : Go.Proofs.LaysM.n173 Tryd.prog Tryd.laysM173_ren := {
  mixed := by kernel_rfl
  f129 := Tryd.func145.trans (congrArg some (by kernel_rfl))
  f173 := Tryd.func100.trans (congrArg some (by kernel_rfl))
  f246 := Tryd.func113.trans (congrArg some (by kernel_rfl))
  f283 := Tryd.func129.trans (congrArg some (by kernel_rfl))
  f284 := Tryd.func130.trans (congrArg some (by kernel_rfl))
  f285 := Tryd.func131.trans (congrArg some (by kernel_rfl))
  f286 := Tryd.func132.trans (congrArg some (by kernel_rfl))
  f317 := Tryd.func144.trans (congrArg some (by kernel_rfl))
  f318 := Tryd.func146.trans (congrArg some (by kernel_rfl))
  f319 := Tryd.func147.trans (congrArg some (by kernel_rfl))
  f320 := Tryd.func148.trans (congrArg some (by kernel_rfl))
  f337 := Tryd.func151.trans (congrArg some (by kernel_rfl))
  f338 := Tryd.func152.trans (congrArg some (by kernel_rfl))
  t0 := Tryd.underlying0
  a0 := Tryd.isAgg0
  z0 := Tryd.sizeOf0
  v0 := Tryd.zeroValue0
  t2 := Tryd.underlying2
  a2 := Tryd.isAgg2
  z2 := Tryd.sizeOf2
  v2 := Tryd.zeroValue2
  t3 := Tryd.underlying3
  a3 := Tryd.isAgg3
  z3 := Tryd.sizeOf3
  v3 := Tryd.zeroValue3
  t4 := Tryd.underlying4
  a4 := Tryd.isAgg4
  z4 := Tryd.sizeOf4
  v4 := Tryd.zeroValue4
  t5 := Tryd.underlying5
  a5 := Tryd.isAgg5
  z5 := Tryd.sizeOf5
  v5 := Tryd.zeroValue5
  t9 := Tryd.underlying9
  a9 := Tryd.isAgg9
  z9 := Tryd.sizeOf9
  v9 := Tryd.zeroValue9
  t20 := Tryd.underlying20
  a20 := Tryd.isAgg20
  z20 := Tryd.sizeOf20
  v20 := Tryd.zeroValue20
  t37 := Tryd.underlying48
  a37 := Tryd.isAgg48
  z37 := Tryd.sizeOf48
  v37 := Tryd.zeroValue48
  t46 := Tryd.underlying119
  a46 := Tryd.isAgg119
  z46 := Tryd.sizeOf119
  v46 := Tryd.zeroValue119
  t51 := Tryd.underlying153
  a51 := Tryd.isAgg153
  z51 := Tryd.sizeOf153
  v51 := Tryd.zeroValue153
  t53 := Tryd.underlying112
  a53 := Tryd.isAgg112
  z53 := Tryd.sizeOf112
  v53 := Tryd.zeroValue112
  t171 := Tryd.underlying145
  a171 := Tryd.isAgg145
  z171 := Tryd.sizeOf145
  v171 := Tryd.zeroValue145
  t173 := Tryd.underlying148
  a173 := Tryd.isAgg148
  z173 := Tryd.sizeOf148
  v173 := Tryd.zeroValue148
  t212 := Tryd.underlying162
  a212 := Tryd.isAgg162
  z212 := Tryd.sizeOf162
  v212 := Tryd.zeroValue162
  t213 := Tryd.underlying163
  a213 := Tryd.isAgg163
  z213 := Tryd.sizeOf163
  t232 := Tryd.underlying174
  a232 := Tryd.isAgg174
  z232 := Tryd.sizeOf174
  v232 := Tryd.zeroValue174
  t233 := Tryd.underlying175
  a233 := Tryd.isAgg175
  z233 := Tryd.sizeOf175
  v233 := Tryd.zeroValue175
  g17 := by kernel_rfl
  g18 := by kernel_rfl
  g19 := by kernel_rfl
  i0 := by kernel_rfl
  i2 := by kernel_rfl
  i3 := by kernel_rfl
  i4 := by kernel_rfl
  i5 := by kernel_rfl
  i9 := by kernel_rfl
  i20 := by kernel_rfl
  i37 := by kernel_rfl
  i46 := by kernel_rfl
  i51 := by kernel_rfl
  i53 := by kernel_rfl
  i171 := by kernel_rfl
  i173 := by kernel_rfl
  i212 := by kernel_rfl
  i232 := by kernel_rfl
  i233 := by kernel_rfl
  m17 := by kernel_rfl
  m18 := by kernel_rfl
  m19 := by kernel_rfl }
open Go.RowKit Go.Sort Go.Lib in
theorem Tryd.strconv_FormatInt_10 (n : Int) (h0 : -9223372036854775808 ≤ n) (h1 : n ≤ 9223372036854775807) (w : World) (htab : Lib.TabIs Tryd.prog w "internal/strconv.uint64pow10" .u64 Lib.pow10Tab) :
    Calls Tryd.prog 100 #[.int .i64 n, .int .i64 10] w fun e w' => e = .returned (.string ⟨(Lib.itoa n).toArray⟩) ∧ ∃ k os, w' = grow (w.drewN k) os := Any.strconv_FormatInt_10 Tryd.laysM173 n h0 h1 w htab
end Go.Proofs

namespace Go.Proofs.YtbijcpnimkcfcaaDoor.M
def dec (n : Nat) : ByteArray := ⟨(Lib.decDigits n).toArray⟩
def itoaB (x : Int) : ByteArray := ⟨(Lib.itoa x).toArray⟩
theorem nd_le : ∀ (k u : Nat), 0 < k → u < 10 ^ k → Lib.nDigits u ≤ k
  | 0, u, h, _ => by omega
  | k + 1, u, _, h => by
    by_cases h1 : u < 10
    · rw [Lib.nDigits_small h1]; omega
    · rw [Lib.nDigits_big h1]
      have hk : 0 < k := by
        rcases Nat.eq_zero_or_pos k with rfl | hk
        · simp only [Nat.zero_add, Nat.pow_one] at h; omega
        · exact hk
      have := nd_le k (u / 10) hk (by rw [Nat.pow_succ] at h; omega)
      omega
theorem dec_size {n : Nat} (h : n ≤ 9223372036854775807) : (dec n).size ≤ 20 := by
  show (Lib.decDigits n).toArray.size ≤ 20
  rw [List.size_toArray, Lib.decDigits_length]
  exact nd_le 20 n (by decide) (by omega)
theorem dec_small {q : Nat} (h : q < 10) : strOfNums [48 + (q : Int)] = dec q := by
  unfold dec
  rw [Lib.decDigits_one h]
  match q, h with
  | 0, _ => rfl
  | 1, _ => rfl
  | 2, _ => rfl
  | 3, _ => rfl
  | 4, _ => rfl
  | 5, _ => rfl
  | 6, _ => rfl
  | 7, _ => rfl
  | 8, _ => rfl
  | 9, _ => rfl
  | n + 10, h => omega
theorem mk_app (a b : List UInt8) : (⟨a.toArray⟩ : ByteArray) ++ ⟨b.toArray⟩ = ⟨(a ++ b).toArray⟩ := by
  apply ByteArray.ext
  simp [ByteArray.data_append]
theorem dec_big {n : Nat} (h : ¬ n < 10) : dec n = dec (n / 10) ++ strOfNums [48 + ((n % 10 : Nat) : Int)] := by
  rw [dec_small (by omega)]
  unfold dec
  rw [mk_app, Lib.decDigits_one (i := n % 10) (by omega)]
  conv => lhs; rw [Lib.decDigits, dif_neg h]
theorem itoaB_nat (n : Nat) : itoaB (n : Int) = dec n := by
  unfold itoaB dec Lib.itoa
  rw [if_neg (by omega), Int.toNat_natCast]
theorem itoaB_neg {x : Int} (h : x < 0) : itoaB x = ⟨#[45]⟩ ++ dec x.natAbs := by
  unfold itoaB dec Lib.itoa
  rw [if_pos h, show (⟨#[45]⟩ : ByteArray) = ⟨[45].toArray⟩ from rfl, mk_app]
  rfl
theorem itoaB_size {x : Int} (h0 : -9223372036854775807 ≤ x) (h1 : x ≤ 9223372036854775807) : (itoaB x).size ≤ 21 := by
  by_cases h : x < 0
  · rw [itoaB_neg h, ByteArray.size_append]
    have := dec_size (n := x.natAbs) (by omega)
    show 1 + _ ≤ 21
    omega
  · obtain ⟨n, rfl⟩ : ∃ n : Nat, x = n := ⟨x.toNat, by omega⟩
    rw [itoaB_nat]
    have := dec_size (n := n) (by omega)
    omega
def fracT (x y : Int) : ByteArray := itoaB x ++ ⟨#[47]⟩ ++ itoaB y
end Go.Proofs.YtbijcpnimkcfcaaDoor.M
namespace Go.Proofs.YtbijcpnimkcfcaaDoor.H
open Go.RowKit Go.Proofs.YtbijcpnimkcfcaaDoorW.PrintWords Go.Proofs.YtbijcpnimkcfcaaDoorW.PrintLast Go.Proofs.YtbijcpnimkcfcaaDoorW.PrintMore Go.Proofs.YtbijcpnimkcfcaaDoor.M
attribute [local go_sem] max2_int min2_int max_two min_two max_three min_three max_four min_four
set_option linter.unusedVariables false
set_option linter.unusedSimpArgs false
set_option maxRecDepth 100000
theorem stp_conv {P : Program} {ops : Array Oper} {o : Oper} {a : Act} {Q : Exit → Act → World → Prop} {Kc : Act → World → Prop} {w W : World} {S : Nat → Prop} {L : List As} (hw : Region.wanted o (yielded ops a.tmps) = true) (HS : Aside0 (Mod w W S L)) (i : Nat) {B : Option Addr} {b : Nat} {y : List Int} {e : Nat} (hi : L[i]? = some (rw' (Kd.int .u8) rfl e (.slice B y.length b) y)) {N : Option Tmp} (hd : o.dst = N) {t u : TypeId} {x : Operand} (ho : o.op = .convert t u x) (hx : a.eval x = .slice B y.length b)
    (ht : P.underlying t = some (.slice e)) (he : P.underlying e = some (.int .u8)) (hu : P.underlying u = some .string) (h : Kc (a.put N (.string (strOfNums y))) W) : Stp P ops Q o a W Kc :=
  stp_value (v := .string (strOfNums y)) (W1 := W) hw hd (by simp [execOp, ho, hx, own_string ht he hu (Kd.own_of_R (HS.out.rowAt i hi))]) h
set_option maxHeartbeats 8000000 in
theorem specDecN : ∀ (f n : Nat) (w : World), n ≤ f → n ≤ 9223372036854775807 → Calls Tryd.prog 80 #[.int .i64 (n : Int)] w fun e w' => e = .returned (.string (dec n)) ∧ Below w.heap.size w w' := by
  intro f
  induction f with
  | zero =>
    intro n w hf hn
    obtain rfl : n = 0 := by omega
    have HS := Aside0.mk (Sep.refl w)
    have HD := Aside0.mk (dec_small (q := 0) (by decide))
    have hcv : ∀ W : World, (convert 48 9 (.slice (some ⟨W.heap.size, 0, none⟩) 1 1)).run Tryd.prog (W.alloc (.cells #[.int .u8 48] 5)) = .ok (.string (strOfNums [48])) (W.alloc (.cells #[.int .u8 48] 5)) := fun W => byte_string W 48
    go_enter Tryd.func80, Tryd.ntmps80
    go_wp2
    go_ret
    exact ⟨ret_str (by rw [← HD.out]; rfl), below_alloc HS.out.below _⟩
  | succ f ih =>
    intro n w hf hn
    have hng : ¬ ((n : Int) < 0) := by omega
    have HS := Aside0.mk (Sep.refl w)
    by_cases h10 : n < 10
    · have HD := Aside0.mk (dec_small h10)
      have hn10 : (n : Int) < 10 := by omega
      have hw2 : IntKind.u8.wrap (48 + (n : Int)) = 48 + n := u8_small _ (by omega) (by omega)
      have hcv : ∀ W : World, (convert 48 9 (.slice (some ⟨W.heap.size, 0, none⟩) 1 1)).run Tryd.prog (W.alloc (.cells #[.int .u8 (48 + (n : Int))] 5)) = .ok (.string (strOfNums [48 + (n : Int)])) (W.alloc (.cells #[.int .u8 (48 + (n : Int))] 5)) := fun W => byte_string W (48 + (n : Int))
      go_enter Tryd.func80, Tryd.ntmps80
      go_wp2
      go_ret
      exact ⟨ret_str HD.out, below_alloc HS.out.below _⟩
    · have HD := Aside0.mk (dec_big h10)
      have HI := Aside0.mk (fun X => ih (n / 10) X (by omega) (by omega))
      have HZ := Aside0.mk (dec_size (n := n / 10) (by omega))
      have hn10 : ¬ ((n : Int) < 10) := by omega
      obtain ⟨q, hq⟩ : ∃ q, n % 10 = q := ⟨_, rfl⟩
      obtain ⟨m, hm⟩ : ∃ m, n / 10 = m := ⟨_, rfl⟩
      have hqi : (n : Int) % 10 = (q : Int) := by omega
      have hqd : (n : Int) / 10 = (m : Int) := by omega
      have hqt : (n : Int).tmod 10 = (q : Int) := by rw [Int.tmod_eq_emod_of_nonneg (by omega)]; exact hqi
      have hwm : IntKind.i64.wrap (m : Int) = m := (i64_w _).trans (wrap_id (by omega) (by omega))
      have hq9 : q < 10 := by omega
      rw [hq, hm] at HD
      rw [hm] at HI HZ
      have hw2 : IntKind.u8.wrap (48 + (q : Int)) = 48 + q := u8_small _ (by omega) (by omega)
      have hwq : IntKind.i64.wrap (48 + (q : Int)) = 48 + q := (i64_w _).trans (wrap_id (by omega) (by omega))
      have hsz : (9223372036854775807 < (dec m).size + (strOfNums [48 + (q : Int)]).size) = False := eq_false (Nat.not_lt.2 (by show (dec m).size + 1 ≤ 9223372036854775807; have := HZ.out; omega))
      go_enter Tryd.func80, Tryd.ntmps80
      go_wp2
      replace HS := sD HS
      apply region_told ((fun (A0_ : Option Addr → Nat → Act) (a' : Act) (w' : World) => ∃ (A_o : Option Addr) (c_o : Nat), a' = A0_ A_o c_o ∧ Aside0 (Mod w w' No [rw' (Kd.int .u8) rfl 5 (.slice A_o ([48 + (q : Int)]).length c_o) ([48 + (q : Int)])])) _)
      case h1 =>
        refine ps (.p 0 (.p 1 (.p 3 (.p 4 (.p 5 (.p 6 (.two 2 7 (.e 7 (.e 8 (.p 9 (.p 10 .done)))) (.two 2 8 (.e 8 (.p 9 (.p 10 .done))) (.e 2 (.p 9 (.p 10 .done))))))))))) (fun w' => True) [] trivial (fun hHeld => ?_)
        repeat (first | ((with_reducible refine gate_p ?_); refine rp rfl rfl ?_))
        refine run_two ?_ ?_
        · skip
          refine run_e rfl (fun K hK => ?_)
          refine gc Tryd.func80 (HI.out _) rfl rfl ?_
          rintro e_ w1 ⟨rfl, hb⟩
          refine ⟨_, rfl, ?_⟩
          replace HS := sB HS hb
          refine ge hK trivial (fun hHeld => ?_)
          refine run_e rfl (fun K hK => ?_)
          refine stp_lit (Kd.int .u8) rfl 5 (by rfl) HS (xs := [48 + (q : Int)]) (inner := [.int .u8 (48 + (q : Int))]) (by first | (go_simp; done) | (go_simp; rfl)) (fun W base ok => Reps.one rfl (Reps.none _ _)) (by simp) ?_
          intro A_o c_o w1 HS
          refine ge hK trivial (fun hHeld => ?_)
          refine run_e rfl (fun K hK => ?_)
          refine stp_conv (by rfl) HS 0 rfl rfl rfl rfl Tryd.underlying48 Tryd.underlying5 Tryd.underlying9 ?_
          refine ge hK trivial (fun hHeld => ?_)
          repeat (first | ((with_reducible refine gate_p ?_); refine rp rfl rfl ?_))
          refine run_done ?_
          exact ⟨A_o, c_o, rfl, HS⟩
        · skip
          refine run_e rfl (fun K hK => ?_)
          refine stp_lit (Kd.int .u8) rfl 5 (by rfl) HS (xs := [48 + (q : Int)]) (inner := [.int .u8 (48 + (q : Int))]) (by first | (go_simp; done) | (go_simp; rfl)) (fun W base ok => Reps.one rfl (Reps.none _ _)) (by simp) ?_
          intro A_o c_o w1 HS
          refine ge hK trivial (fun hHeld => ?_)
          refine run_two ?_ ?_
          · skip
            refine run_e rfl (fun K hK => ?_)
            refine gc Tryd.func80 (HI.out _) rfl rfl ?_
            rintro e_ w1 ⟨rfl, hb⟩
            refine ⟨_, rfl, ?_⟩
            replace HS := sB HS hb
            refine ge hK trivial (fun hHeld => ?_)
            refine run_e rfl (fun K hK => ?_)
            refine stp_conv (by rfl) HS 0 rfl rfl rfl rfl Tryd.underlying48 Tryd.underlying5 Tryd.underlying9 ?_
            refine ge hK trivial (fun hHeld => ?_)
            repeat (first | ((with_reducible refine gate_p ?_); refine rp rfl rfl ?_))
            refine run_done ?_
            have n_ := HS.out.sel [0] (by decide)
            simp only [List.filterMap_cons, List.filterMap_nil, List.getElem?_cons_zero, List.getElem?_cons_succ] at n_
            exact ⟨A_o, c_o, rfl, ⟨n_⟩⟩
          · skip
            refine run_e rfl (fun K hK => ?_)
            refine stp_conv (by rfl) HS 0 rfl rfl rfl rfl Tryd.underlying48 Tryd.underlying5 Tryd.underlying9 ?_
            refine ge hK trivial (fun hHeld => ?_)
            refine run_e rfl (fun K hK => ?_)
            refine gc Tryd.func80 (HI.out _) rfl rfl ?_
            rintro e_ w1 ⟨rfl, hb⟩
            refine ⟨_, rfl, ?_⟩
            replace HS := sB HS hb
            refine ge hK trivial (fun hHeld => ?_)
            repeat (first | ((with_reducible refine gate_p ?_); refine rp rfl rfl ?_))
            refine run_done ?_
            have n_ := HS.out.sel [0] (by decide)
            simp only [List.filterMap_cons, List.filterMap_nil, List.getElem?_cons_zero, List.getElem?_cons_succ] at n_
            exact ⟨A_o, c_o, rfl, ⟨n_⟩⟩
      clear HS
      rintro a_ w1 ⟨A_o, c_o, rfl, HS⟩
      go_wp2
      go_ret
      exact ⟨ret_str HD.out.symm, HS.out.below⟩
end Go.Proofs.YtbijcpnimkcfcaaDoor.H



namespace Go.Proofs.YtbijcpnimkcfcaaDoor.M
theorem fr_b {x y : Int} (h : isFr x y = true) : -9223372036854775807 ≤ x ∧ x ≤ 9223372036854775807 ∧ -9223372036854775807 ≤ y ∧ y ≤ 9223372036854775807 := by
  have := (isFr_iff x y).1 h
  omega
end Go.Proofs.YtbijcpnimkcfcaaDoor.M
namespace Go.Proofs.YtbijcpnimkcfcaaDoor.H
open Go.RowKit Go.Proofs.YtbijcpnimkcfcaaDoorW.PrintWords Go.Proofs.YtbijcpnimkcfcaaDoorW.PrintLast Go.Proofs.YtbijcpnimkcfcaaDoorW.PrintMore Go.Proofs.YtbijcpnimkcfcaaDoor.M
attribute [local go_sem] max2_int min2_int max_two min_two max_three min_three max_four min_four
set_option linter.unusedVariables false
set_option linter.unusedSimpArgs false
set_option maxRecDepth 100000
def Tab (w : World) : Prop := Lib.TabIs Tryd.prog w "internal/strconv.uint64pow10" .u64 Lib.pow10Tab
set_option maxRecDepth 100000 in
theorem tab_laid {w : World} (hL : laidMet Tryd.prog [("math/bits.deBruijn32tab", Rows.laid_math_bits_deBruijn32tab), ("math/bits.deBruijn64tab", Rows.laid_math_bits_deBruijn64tab), ("internal/strconv.uint64pow10", Rows.laid_internal_strconv_uint64pow10)] w) : Tab w :=
  Lib.tabIs_of_head (g := 3) (t := 162) (e := 112) (n := 20) (by kernel_rfl) (by kernel_rfl) (by kernel_rfl) (by kernel_rfl) (by kernel_rfl) (by kernel_rfl) (show laidMet Tryd.prog (("internal/strconv.uint64pow10", Lib.tabData .u64 Lib.pow10Tab) :: []) w from hL.tail.tail)
theorem tab_on {w W : World} (h : Tab w) (hb : Below w.heap.size w W) : Tab W := Lib.tabBelow_of_tabIs h _ hb
theorem below_grow (w : World) (k : Nat) (os : Array Obj) : Below w.heap.size w (Go.Sort.grow (w.drewN k) os) := by
  have h0 : Below w.heap.size w (w.drewN k) := pw_below_drewN (Below.refl _ _) _
  refine h0.trans ⟨rfl, rfl, rfl, ?_, fun j hj => ?_⟩
  · show _ ≤ (_ ++ os).size
    rw [Array.size_append]; omega
  · show ((w.drewN k).heap ++ os)[j]? = _
    rw [Array.getElem?_append_left (Nat.lt_of_lt_of_le hj h0.size)]
theorem shelfItoa (x : Int) (h0 : -9223372036854775807 ≤ x) (h1 : x ≤ 9223372036854775807) (w : World) (hT : Tab w) : Calls Tryd.prog 100 #[.int .i64 x, .int .i64 10] w fun e w' => e = .returned (.string (itoaB x)) ∧ Below w.heap.size w w' := by
  refine (Tryd.strconv_FormatInt_10 x (by omega) h1 w hT).mono ?_
  rintro e w' ⟨he, k, os, rfl⟩
  exact ⟨he, below_grow w k os⟩
set_option maxHeartbeats 8000000 in
theorem implDecimal (x : Int) (h0 : -9223372036854775807 ≤ x) (h1 : x ≤ 9223372036854775807) (w : World) (hT : Tab w) : Calls Tryd.prog 81 #[.int .i64 x] w fun e w' => e = .returned (.string (itoaB x)) ∧ Below w.heap.size w w' := by
  have HS := Aside0.mk (Sep.refl w)
  have HI := Aside0.mk (shelfItoa x h0 h1 w hT)
  go_enter Tryd.func81, Tryd.ntmps81
  go_wp2_with (first | (go_at_call 100; refine (HI.out).mono ?_; rintro e_ w1 ⟨rfl, hb⟩; replace HS := sB HS hb; clear hb))
  go_ret
  exact ⟨ret_str rfl, HS.out.below⟩
set_option maxHeartbeats 8000000 in
theorem specDec (x : Int) (h0 : -9223372036854775807 ≤ x) (h1 : x ≤ 9223372036854775807) (w : World) : Calls Tryd.prog 80 #[.int .i64 x] w fun e w' => e = .returned (.string (itoaB x)) ∧ Below w.heap.size w w' := by
  by_cases hx : x < 0
  · have HS := Aside0.mk (Sep.refl w)
    have HD := Aside0.mk (itoaB_neg hx)
    obtain ⟨m, hm⟩ : ∃ m, x.natAbs = m := ⟨_, rfl⟩
    rw [hm] at HD
    have HI := Aside0.mk (fun X => specDecN m m X (Nat.le_refl _) (by omega))
    have hneg : IntKind.i64.wrap (-x) = (m : Int) := (i64_w _).trans ((wrap_id (by omega) (by omega)).trans (by omega))
    have hsz : (9223372036854775807 < 1 + (dec m).size) = False := eq_false (Nat.not_lt.2 (by show 1 + (dec m).size ≤ 9223372036854775807; have := dec_size (n := m) (by omega); omega))
    go_enter Tryd.func80, Tryd.ntmps80
    go_wp2_with (first | (go_at_call 80; refine (HI.out _).mono ?_; rintro e_ w1 ⟨rfl, hb⟩; replace HS := sB HS hb; clear hb))
    go_ret
    exact ⟨ret_str HD.out.symm, HS.out.below⟩
  · obtain ⟨n, rfl⟩ : ∃ n : Nat, x = n := ⟨x.toNat, by omega⟩
    rw [itoaB_nat]
    exact specDecN n n w (Nat.le_refl _) (by omega)
set_option maxHeartbeats 8000000 in
theorem specFracText (x y : Int) (h0 : -9223372036854775807 ≤ x) (h1 : x ≤ 9223372036854775807) (g0 : -9223372036854775807 ≤ y) (g1 : y ≤ 9223372036854775807) (w : World) : Calls Tryd.prog 41 #[.agg #[.int .i64 x, .int .i64 y]] w fun e w' => e = .returned (.string (fracT x y)) ∧ Below w.heap.size w w' := by
  have HS := Aside0.mk (Sep.refl w)
  have HI1 := Aside0.mk (fun X => specDec x h0 h1 X)
  have HI2 := Aside0.mk (fun X => specDec y g0 g1 X)
  have HR := Aside0.mk (show fracT x y = itoaB x ++ ⟨#[47]⟩ ++ itoaB y from rfl)
  have hs1 := itoaB_size h0 h1
  have hs2 := itoaB_size g0 g1
  obtain ⟨a, ha⟩ : ∃ a, itoaB x = a := ⟨_, rfl⟩
  obtain ⟨b, hb⟩ : ∃ b, itoaB y = b := ⟨_, rfl⟩
  rw [ha] at HI1 HR hs1
  rw [hb] at HI2 HR hs2
  have hsz : (9223372036854775807 < a.size + 1) = False := eq_false (by omega)
  have hszb : (9223372036854775807 ≤ a.size) = False := eq_false (by omega)
  have hsz2 : (9223372036854775807 < (a ++ ⟨#[47]⟩).size + b.size) = False := eq_false (Nat.not_lt.2 (by rw [ByteArray.size_append]; show a.size + 1 + b.size ≤ 9223372036854775807; omega))
  have hsz3 : (9223372036854775807 < a.size + 1 + b.size) = False := eq_false (by omega)
  clear hs1 hs2 ha hb h0 h1 g0 g1
  go_enter Tryd.func41, Tryd.ntmps41
  go_wp2_with (first | ((with_reducible refine gate_dst (N := 1) rfl ?_); refine bxL 26 #[.int .i64 x, .int .i64 y] HS ?_; clear HS; intro g_b1 w1 hg_b1 HS))
  replace HS := sD HS
  refine ps (.p 0 (.p 4 (.t 1 (.t 5 (.e 2 (.p 3 (.d 6 (.p 7 (.p 8 .done))))))))) (fun w' => w'.cell? ⟨g_b1, 0, none⟩ = some (.int .i64 x) ∧ w'.cell? ⟨g_b1, 1, none⟩ = some (.int .i64 y)) [6] ⟨HS.out.c 0 0 (v := .int .i64 x) rfl rfl, HS.out.c 0 1 (v := .int .i64 y) rfl rfl⟩ (fun hHeld => ?_)
  repeat (first | ((with_reducible refine gate_p ?_); refine rp rfl rfl ?_) | ((with_reducible refine gate_t ?_); refine rt rfl rfl hHeld ?_))
  refine run_e rfl (fun K hK => ?_)
  refine gc Tryd.func80 (HI1.out _) rfl rfl ?_
  rintro e_ w1 ⟨rfl, hb⟩
  refine ⟨_, rfl, ?_⟩
  replace HS := sB HS hb
  clear hb
  refine ge hK ⟨HS.out.c 0 0 (v := .int .i64 x) rfl rfl, HS.out.c 0 1 (v := .int .i64 y) rfl rfl⟩ (fun hHeld => ?_)
  clear hK K
  repeat (first | ((with_reducible refine gate_p ?_); refine rp rfl rfl ?_) | ((with_reducible refine gate_t ?_); refine rt rfl rfl hHeld ?_))
  refine run_d rfl (fun K hK => ?_)
  refine gc Tryd.func80 (HI2.out _) rfl rfl ?_
  rintro e_ w1 ⟨rfl, hb⟩
  refine ⟨_, rfl, ?_⟩
  replace HS := sB HS hb
  clear hb
  refine gd hK ?_
  clear hK K
  repeat (first | ((with_reducible refine gate_p ?_); refine rp rfl rfl ?_) | ((with_reducible refine gate_t ?_); refine rt rfl rfl hHeld ?_))
  refine run_done ?_
  clear hHeld
  go_wp2
  go_ret
  exact ⟨ret_str HR.out.symm, (HS.out.sel [] (by decide)).below⟩
set_option maxHeartbeats 8000000 in
theorem implFracText (x y : Int) (h0 : -9223372036854775807 ≤ x) (h1 : x ≤ 9223372036854775807) (g0 : -9223372036854775807 ≤ y) (g1 : y ≤ 9223372036854775807) (w : World) (hT : Tab w) : Calls Tryd.prog 42 #[.agg #[.int .i64 x, .int .i64 y]] w fun e w' => e = .returned (.string (fracT x y)) ∧ Below w.heap.size w w' := by
  have HS := Aside0.mk (Sep.refl w)
  have HT := Aside0.mk hT
  have HI1 := Aside0.mk (fun X => implDecimal x h0 h1 X)
  have HI2 := Aside0.mk (fun X => implDecimal y g0 g1 X)
  have HR := Aside0.mk (show fracT x y = itoaB x ++ ⟨#[47]⟩ ++ itoaB y from rfl)
  have hs1 := itoaB_size h0 h1
  have hs2 := itoaB_size g0 g1
  obtain ⟨a, ha⟩ : ∃ a, itoaB x = a := ⟨_, rfl⟩
  obtain ⟨b, hb⟩ : ∃ b, itoaB y = b := ⟨_, rfl⟩
  rw [ha] at HI1 HR hs1
  rw [hb] at HI2 HR hs2
  have hsz : (9223372036854775807 < a.size + 1) = False := eq_false (by omega)
  have hszb : (9223372036854775807 ≤ a.size) = False := eq_false (by omega)
  have hsz2 : (9223372036854775807 < (a ++ ⟨#[47]⟩).size + b.size) = False := eq_false (Nat.not_lt.2 (by rw [ByteArray.size_append]; show a.size + 1 + b.size ≤ 9223372036854775807; omega))
  have hsz3 : (9223372036854775807 < a.size + 1 + b.size) = False := eq_false (by omega)
  clear hs1 hs2 ha hb h0 h1 g0 g1 hT
  go_enter Tryd.func42, Tryd.ntmps42
  go_wp2_with (first | ((with_reducible refine gate_dst (N := 1) rfl ?_); refine bxL 26 #[.int .i64 x, .int .i64 y] HS ?_; clear HS; intro g_b1 w1 hg_b1 HS))
  replace HS := sD HS
  refine ps (.p 0 (.p 4 (.t 1 (.t 5 (.e 2 (.p 3 (.d 6 (.p 7 (.p 8 .done))))))))) (fun w' => w'.cell? ⟨g_b1, 0, none⟩ = some (.int .i64 x) ∧ w'.cell? ⟨g_b1, 1, none⟩ = some (.int .i64 y)) [6] ⟨HS.out.c 0 0 (v := .int .i64 x) rfl rfl, HS.out.c 0 1 (v := .int .i64 y) rfl rfl⟩ (fun hHeld => ?_)
  repeat (first | ((with_reducible refine gate_p ?_); refine rp rfl rfl ?_) | ((with_reducible refine gate_t ?_); refine rt rfl rfl hHeld ?_))
  refine run_e rfl (fun K hK => ?_)
  refine gc Tryd.func81 (HI1.out _ (tab_on HT.out (HS.out.sel [] (by decide)).below)) rfl rfl ?_
  rintro e_ w1 ⟨rfl, hb⟩
  refine ⟨_, rfl, ?_⟩
  replace HS := sB HS hb
  clear hb
  refine ge hK ⟨HS.out.c 0 0 (v := .int .i64 x) rfl rfl, HS.out.c 0 1 (v := .int .i64 y) rfl rfl⟩ (fun hHeld => ?_)
  clear hK K
  repeat (first | ((with_reducible refine gate_p ?_); refine rp rfl rfl ?_) | ((with_reducible refine gate_t ?_); refine rt rfl rfl hHeld ?_))
  refine run_d rfl (fun K hK => ?_)
  refine gc Tryd.func81 (HI2.out _ (tab_on HT.out (HS.out.sel [] (by decide)).below)) rfl rfl ?_
  rintro e_ w1 ⟨rfl, hb⟩
  refine ⟨_, rfl, ?_⟩
  replace HS := sB HS hb
  clear hb
  refine gd hK ?_
  clear hK K
  repeat (first | ((with_reducible refine gate_p ?_); refine rp rfl rfl ?_) | ((with_reducible refine gate_t ?_); refine rt rfl rfl hHeld ?_))
  refine run_done ?_
  clear hHeld
  go_wp2
  go_ret
  exact ⟨ret_str HR.out.symm, (HS.out.sel [] (by decide)).below⟩
def RetT (w : World) (r : ByteArray × Int) (e : Ending) (w' : World) : Prop := e = .returned (.tuple #[.string r.1, .int .i64 r.2]) ∧ Below w.heap.size w w'
end Go.Proofs.YtbijcpnimkcfcaaDoor.H



namespace Go.Proofs
open Go.Shelf
def Tryd.lays156_ren : Go.Shelf.Ren := ⟨fun | 156 => 87 | 165 => 103 | 166 => 104 | 169 => 105 | 240 => 115 | 241 => 116 | 276 => 134 | 277 => 135 | n => n, fun | 31 => 75 | 9 => 9 | 3 => 3 | 4 => 4 | 0 => 0 | 20 => 20 | 72 => 125 | 76 => 127 | 70 => 123 | 37 => 48 | 75 => 106 | 127 => 133 | 164 => 150 | 5 => 5 | 80 => 129 | n => n, fun | n => n⟩
theorem Tryd.lays156 : Go.Proofs.Lays.n156 Tryd.prog Tryd.lays156_ren := {
  mixed := by kernel_rfl
  f156 := Tryd.func87.trans (congrArg some (by kernel_rfl))
  f165 := Tryd.func103.trans (congrArg some (by kernel_rfl))
  f166 := Tryd.func104.trans (congrArg some (by kernel_rfl))
  f169 := Tryd.func105.trans (congrArg some (by kernel_rfl))
  f240 := Tryd.func115.trans (congrArg some (by kernel_rfl))
  f241 := Tryd.func116.trans (congrArg some (by kernel_rfl))
  f276 := Tryd.func134.trans (congrArg some (by kernel_rfl))
  f277 := Tryd.func135.trans (congrArg some (by kernel_rfl))
  t0 := Tryd.underlying0
  a0 := Tryd.isAgg0
  z0 := Tryd.sizeOf0
  v0 := Tryd.zeroValue0
  t3 := Tryd.underlying3
  a3 := Tryd.isAgg3
  z3 := Tryd.sizeOf3
  v3 := Tryd.zeroValue3
  t4 := Tryd.underlying4
  a4 := Tryd.isAgg4
  z4 := Tryd.sizeOf4
  v4 := Tryd.zeroValue4
  t9 := Tryd.underlying9
  a9 := Tryd.isAgg9
  z9 := Tryd.sizeOf9
  v9 := Tryd.zeroValue9
  t20 := Tryd.underlying20
  a20 := Tryd.isAgg20
  z20 := Tryd.sizeOf20
  v20 := Tryd.zeroValue20
  t31 := Tryd.underlying75
  a31 := Tryd.isAgg75
  z31 := Tryd.sizeOf75
  v31 := Tryd.zeroValue75
  t37 := Tryd.underlying48
  a37 := Tryd.isAgg48
  z37 := Tryd.sizeOf48
  v37 := Tryd.zeroValue48
  t70 := Tryd.underlying123
  a70 := Tryd.isAgg123
  z70 := Tryd.sizeOf123
  v70 := Tryd.zeroValue123
  t72 := Tryd.underlying125
  a72 := Tryd.isAgg125
  z72 := Tryd.sizeOf125
  v72 := Tryd.zeroValue125
  t75 := Tryd.underlying106
  a75 := Tryd.isAgg106
  z75 := Tryd.sizeOf106
  v75 := Tryd.zeroValue106
  t76 := Tryd.underlying127
  a76 := Tryd.isAgg127
  z76 := Tryd.sizeOf127
  v76 := Tryd.zeroValue127
  t127 := Tryd.underlying133
  a127 := Tryd.isAgg133
  z127 := Tryd.sizeOf133
  v127 := Tryd.zeroValue133
  t164 := Tryd.underlying150
  a164 := Tryd.isAgg150
  z164 := Tryd.sizeOf150
  v164 := Tryd.zeroValue150 }
theorem Tryd.Builder_Extra_156 : Builder.Extra Tryd.prog Tryd.lays156_ren := {
  sizeBuilder := by kernel_rfl
  liesBuilder := by kernel_rfl
  t5 := Tryd.underlying5
  a5 := Tryd.isAgg5
  z5 := Tryd.sizeOf5
  v5 := Tryd.zeroValue5
  infoByte := by kernel_rfl
  cellsByte := by kernel_rfl
  sizeByte := by kernel_rfl
  neB5 := by decide }
open Go.RowKit in
theorem Tryd.strings_Join (bk o c : Nat) (xs : List ByteArray) (sep : ByteArray) (w : World) (hcells : ∀ (j : Nat) x, xs[j]? = some x → w.cell? ⟨bk, o + j, none⟩ = some (.string x)) (hbk : bk < w.heap.size) (hN : xs.length ≤ 140737488355328) (hcap : xs.length ≤ c) (hlen : (Lib.join (xs.map (·.data.toList)) sep.data.toList).length ≤ 140737488355328) :
    Calls Tryd.prog 87 #[.slice (some ⟨bk, o, none⟩) xs.length c, .string sep] w fun e w' => e = .returned (.string ⟨(Lib.join (xs.map (·.data.toList)) sep.data.toList).toArray⟩) ∧ Below w.heap.size w w' := Any.strings_Join Tryd.lays156 Tryd.Builder_Extra_156 bk o c xs sep w hcells hbk hN hcap hlen
end Go.Proofs

