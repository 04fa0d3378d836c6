/- Plain facts and contracts of functions that the law's walk uses. Conditions: those that stand in each statement. -/
import Derived.Test.YtibjkjhpfmmjoaaRvG4
import Derived.Test.YtibjkjhpfmmjoaaRvG5
import Derived.Test.YtibjkjhpfmmjoaaRvG3
import Derived.Test.YtibjkjhpfmmjoaaWRepsOne
import Derived.Test.YtibjkjhpfmmjoaaRvG1
namespace Go.Proofs.Ytibjkjhpfmmjoaa.M
set_option linter.unusedVariables false
/-- A word from its end on. -/
def rev (s : ByteArray) : ByteArray := ⟨(bl s).reverse.toArray⟩
theorem bl_rev (s : ByteArray) : bl (rev s) = (bl s).reverse := rfl
theorem rev_rev (s : ByteArray) : rev (rev s) = s := bl_ext (by rw [bl_rev, bl_rev, List.reverse_reverse])
theorem rev_size (s : ByteArray) : (rev s).size = s.size := by rw [← bl_len, bl_rev, List.length_reverse, bl_len]
theorem rev_wd (d : Nat) (s : ByteArray) : isWd d (rev s) = isWd d s := by unfold isWd isWL; rw [bl_rev, List.all_reverse]
theorem rev_eq {u v : ByteArray} : rev u = v ↔ u = rev v := ⟨fun h => by rw [← h, rev_rev], fun h => by rw [h, rev_rev]⟩
/-- The sign of a word's value. -/
def sgn (b : Bool) (s : ByteArray) (a : Fr) : Fr := if (b && decide (s.size % 2 = 1)) = true then (-a.1, a.2) else a
theorem fr_neg {a : Fr} (h : fr a = true) : fr (-a.1, a.2) = true := by
  have := (isFr_iff _ _).1 h
  refine (isFr_iff _ _).2 ⟨this.1, this.2.1, by omega, by omega, ?_⟩
  show Int.gcd (-a.1) a.2 = 1
  rw [Int.neg_gcd]; exact this.2.2.2.2
theorem sgn_fr {b : Bool} {s : ByteArray} {a : Fr} (h : fr a = true) : fr (sgn b s a) = true := by
  unfold sgn
  split
  · exact fr_neg h
  · exact h
theorem sgn_zero (b : Bool) (s : ByteArray) : sgn b s (0, 1) = (0, 1) := by unfold sgn; split <;> rfl
def revF (b : Bool) (l : Ts) (u : ByteArray) : Fr := sgn b u (co l (rev u))
theorem revF_good {d n : Nat} {b : Bool} {l : Ts} (h : isTs d n l = true) : good (revF b l) := fun u => sgn_fr (co_fr h _)
theorem revF_next {d n : Nat} {b : Bool} {l : Ts} (h : isTs d n l = true) {k : Nat} (hk : k < l.length) : upd (revF b (l.take k)) (rev (l.getD k H.zT).1) (sgn b (l.getD k H.zT).1 (l.getD k H.zT).2) = revF b (l.take (k + 1)) := by
  funext u
  unfold revF
  rw [co_take_succ h hk]
  unfold upd
  by_cases e : u = rev (l.getD k H.zT).1
  · rw [if_pos e, if_pos (rev_eq.2 e), e]
    unfold sgn
    rw [rev_size]
  · rw [if_neg e, if_neg (fun h => e (rev_eq.1 h))]
theorem revF_new {d n : Nat} {b : Bool} {l : Ts} (h : isTs d n l = true) {k : Nat} (hk : k < l.length) : revF b (l.take k) (rev (l.getD k H.zT).1) = (0, 1) := by
  have hs : Srt l := (isTs_iff.1 h).2
  unfold revF
  rw [rev_rev, co_none, sgn_zero]
  intro t ht e
  obtain ⟨j, hj, rfl⟩ := List.getElem_of_mem ht
  rw [List.length_take] at hj
  rw [List.getElem_take, H.getD_lt l H.zT k hk] at e
  have := List.pairwise_iff_getElem.1 hs j k (by omega) hk (by omega)
  rw [e, bef_irrefl] at this
  cases this
end Go.Proofs.Ytibjkjhpfmmjoaa.M
namespace Go.Proofs.Ytibjkjhpfmmjoaa.M
/-- The bytes of a word from its end on, k of them. -/
def revB (s : ByteArray) (k : Nat) : List Int := ((bl s).reverse.take k).map fun c => (c.toNat : Int)
theorem revB_next {s : ByteArray} {p : Nat} (h : p < s.size) : revB s (s.size - p) = revB s (s.size - 1 - p) ++ [((s[p]'h).toNat : Int)] := by
  unfold revB
  have hl : (bl s).length = s.size := bl_len s
  rw [show s.size - p = (s.size - 1 - p) + 1 by omega, List.take_add_one, List.map_append]
  congr 1
  rw [List.getElem?_reverse (by omega), hl, show s.size - 1 - (s.size - 1 - p) = p by omega]
  have : (bl s)[p]? = some (s[p]'h) := by
    rw [List.getElem?_eq_getElem (by omega)]; rfl
  rw [this]; rfl
end Go.Proofs.Ytibjkjhpfmmjoaa.M
namespace Go.Proofs.Ytibjkjhpfmmjoaa.H
open Go.RowKit Go.Proofs.YtibjkjhpfmmjoaaW.PrintWords Go.Proofs.YtibjkjhpfmmjoaaW.PrintLast Go.Proofs.YtibjkjhpfmmjoaaW.PrintMore Go.Proofs.Ytibjkjhpfmmjoaa.M
attribute [local go_sem] max2_int min2_int max_two min_two max_three min_three max_four min_four
set_option linter.unusedVariables false
set_option linter.unusedSimpArgs false
set_option maxRecDepth 100000
theorem rev_str (s : ByteArray) : strOfNums (revB s s.size) = rev s := by
  unfold strOfNums revB rev
  rw [List.take_of_length_le (by rw [List.length_reverse, bl_len]; omega)]
  congr 1
  simp only [List.map_map]
  congr 1
  conv => rhs; rw [← List.map_id (bl s).reverse]
  apply List.map_congr_left
  intro c _
  simp
abbrev rowB (B : Option Addr) (b : Nat) (y : List Int) : As := rw' (Kd.int .u8) rfl 5 (.slice B y.length b) y
theorem conv_row {w W : World} {S : Nat → Prop} {L : List As} (h : Mod w W S L) (i : Nat) {B : Option Addr} {b : Nat} {y : List Int} (hi : L[i]? = some (rowB B b y)) : (convert 22 9 (.slice B y.length b)).run Try.prog W = .ok (.string (strOfNums y)) W :=
  own_string Try.underlying22 Try.underlying5 Try.underlying9 (Kd.own_of_R (h.rowAt i hi))
set_option maxHeartbeats 8000000 in
theorem specTurned (s : ByteArray) (hs : s.size ≤ 1048576) (w : World) : Calls Try.prog 111 #[.string s] w fun e w' => e = .returned (.string (rev s)) ∧ Below w.heap.size w w' := by
  have HS := Aside0.mk (Sep.refl w)
  go_enter Try.func111, Try.ntmps111
  go_wp2_with (first | ((with_reducible refine gate_dst (N := 5) rfl ?_); refine wpList_stp (fun K hK => ?_); refine stp_lit (Kd.int .u8) rfl 5 (by rfl) HS (xs := ([] : List Int)) (inner := []) (by first | (go_simp; done) | (go_simp; rfl)) (fun W base ok => Reps.none _ _) (by simp) ?_; clear HS; intro A_o c_o w1 HS; refine hK _ _ ?_; clear hK K))
  go_loopw [3, 4] (fun x v w' => ∃ (p : Nat) (z : Int) (B : Option Addr) (b : Nat) (y : List Int), p ≤ s.size ∧ v = .int .i64 z ∧ z + 1 = p ∧ x = .slice B y.length b ∧ Aside0 (y = revB s (s.size - p)) ∧ Aside0 (Mod w w' No [rowB B b y])) (fun _ v _ => (intOf v + 1).toNat)
  case atStart => exact ⟨s.size, _, A_o, c_o, [], by omega, rfl, by omega, rfl, ⟨by rw [Nat.sub_self]; rfl⟩, HS⟩
  case round =>
    clear HS
    obtain ⟨p, z, B, b, y, hp, rfl, hz, rfl, HY, HS⟩ := hrel
    by_cases hlt : 0 < p
    · obtain ⟨q, rfl⟩ : ∃ q, p = q + 1 := ⟨p - 1, by omega⟩
      obtain rfl : z = (q : Int) := by omega
      have hq : q < s.size := by omega
      obtain ⟨c, hc⟩ : ∃ c : Int, ∀ h : q < s.size, ((s[q]'h).toNat : Int) = c := ⟨((s[q]'hq).toNat : Int), fun _ => rfl⟩
      have HC := Aside0.mk (hc hq)
      have HN := Aside0.mk (revB_next hq)
      have hyl : y.length ≤ 1048576 := by rw [HY.out]; unfold revB; rw [List.length_map, List.length_take]; omega
      clear hz
      go_wp2_with (first | ((with_reducible refine gate_builtin (b := .append) (xs := #[.tmp 13, .tmp 17]) rfl ?_); at_builtin; refine wpList_stp (fun K hK => ?_); refine stp_app (Kd.int .u8) rfl (by rfl) HS 0 rfl (.tmp 13) (.tmp 17) 22 5 (.int .u8 0) 1 rfl Try.underlying22 infoU8 (by kernel_rfl) (c) [.int .u8 c] rfl (by first | rfl | (show Value.slice (some ⟨_, 0, none⟩) 1 1 = _; simp)) (fun _ _ _ => rfl) (by omega) ?_; clear HS; intro A_y' c_y' y' w1 Ny' HS; simp only [List.set_cons_zero, List.set_cons_succ] at HS; refine hK _ _ ?_; clear hK K))
      go_roundw
      case rel => exact ⟨q, _, A_y', c_y', y', by omega, rfl, by omega, rfl, ⟨by rw [Ny'.out, HY.out, HN.out, HC.out, show s.size - (q + 1) = s.size - 1 - q by omega]⟩, HS⟩
      case measure => simp [intOf] <;> omega
    · obtain rfl : p = 0 := by omega
      obtain rfl : z = -1 := by omega
      have hcv := conv_row HS.out 0 rfl
      go_wp2
      go_ret
      exact ⟨ret_str (by rw [HY.out, Nat.sub_zero, rev_str]), HS.out.below⟩
theorem stp_make0 {P : Program} {ops : Array Oper} {o : Oper} {a : Act} {Q : Exit → Act → World → Prop} {Kc : Act → World → Prop} {w W : World} {S : Nat → Prop} {L : List As} (hw : Region.wanted o (yielded ops a.tmps) = true) (HS : Aside0 (Mod w W S L)) {N : Tmp} (hd : o.dst = some N) (t : TypeId) (x y : Operand) (ho : o.op = .makeSlice t x y) (m : Nat) (hx : a.eval x = .int .i64 0) (hy : a.eval y = .int .i64 (m : Int))
    (ht : P.underlying t = some (.slice 5)) (hinfo : (P.info? 5).map (fun i => (i.zero, i.size, i.bytes)) = some (some (.int .u8 0), 1, 1)) (hl : m ≤ 1048576)
    (h : ∀ A c w1, Aside0 (Mod w w1 S (rowB A c [] :: L)) → Kc (a.put o.dst (.slice A 0 c)) w1) : Stp P ops Q o a W Kc := by
  obtain ⟨i0, hi, hzz⟩ := Option.map_eq_some_iff.1 hinfo
  simp only [Prod.mk.injEq] at hzz
  obtain ⟨hz0, hz1, hz2⟩ := hzz
  obtain ⟨w', hr, hO, hg⟩ := run_make_own (P := P) W 0 t 5 i0 _ 1 ht hi hz0 hz1 .i64 .i64 m (by rw [hz2]; omega) (by unfold maxLen; omega) (Nat.zero_le _)
  refine stp_value (v := .slice (some ⟨W.heap.size, 0, none⟩) 0 m) (W1 := w') hw rfl (by simp [execOp, ho, hx, hy, hr]) ?_
  refine h _ _ w' ⟨HS.out.new (A := [rowB (some ⟨W.heap.size, 0, none⟩) m []]) (Sep.one ⟨hg.os, hg.tape, hg.output, hg.size, fun k hk => hg.block k hk (by simp)⟩ (Kd.R_of_own hO (fun _ _ => trivial)) (fun k hk => by
    have hk' : (Value.slice (some ⟨W.heap.size, 0, none⟩) 0 m).ownBlock = some k := hk
    simp only [Value.ownBlock, Option.some.injEq] at hk'
    omega))⟩
set_option maxHeartbeats 8000000 in
theorem implReversed (s : ByteArray) (hs : s.size ≤ 1048576) (w : World) : Calls Try.prog 105 #[.string s] w fun e w' => e = .returned (.string (rev s)) ∧ Below w.heap.size w w' := by
  have HS := Aside0.mk (Sep.refl w)
  go_enter Try.func105, Try.ntmps105
  go_wp2_with (first | ((with_reducible refine gate_dst (N := 7) rfl ?_); refine wpList_stp (fun K hK => ?_); refine stp_make0 (by rfl) HS rfl 22 _ _ rfl s.size rfl rfl Try.underlying22 infoU8 (by omega) ?_; clear HS; intro A_o c_o w1 HS; refine hK _ _ ?_; clear hK K))
  go_loopw [3, 4] (fun x v w' => ∃ (p : Nat) (z : Int) (B : Option Addr) (b : Nat) (y : List Int), p ≤ s.size ∧ v = .int .i64 z ∧ z + 1 = p ∧ x = .slice B y.length b ∧ Aside0 (y = revB s (s.size - p)) ∧ Aside0 (Mod w w' No [rowB B b y])) (fun _ v _ => (intOf v + 1).toNat)
  case atStart => exact ⟨s.size, _, A_o, c_o, [], by omega, rfl, by omega, rfl, ⟨by rw [Nat.sub_self]; rfl⟩, HS⟩
  case round =>
    clear HS
    obtain ⟨p, z, B, b, y, hp, rfl, hz, rfl, HY, HS⟩ := hrel
    by_cases hlt : 0 < p
    · obtain ⟨q, rfl⟩ : ∃ q, p = q + 1 := ⟨p - 1, by omega⟩
      obtain rfl : z = (q : Int) := by omega
      have hq : q < s.size := by omega
      obtain ⟨c, hc⟩ : ∃ c : Int, ∀ h : q < s.size, ((s[q]'h).toNat : Int) = c := ⟨((s[q]'hq).toNat : Int), fun _ => rfl⟩
      have HC := Aside0.mk (hc hq)
      have HN := Aside0.mk (revB_next hq)
      have hyl : y.length ≤ 1048576 := by rw [HY.out]; unfold revB; rw [List.length_map, List.length_take]; omega
      clear hz
      go_wp2_with (first | ((with_reducible refine gate_builtin (b := .append) (xs := #[.tmp 15, .tmp 19]) rfl ?_); at_builtin; refine wpList_stp (fun K hK => ?_); refine stp_app (Kd.int .u8) rfl (by rfl) HS 0 rfl (.tmp 15) (.tmp 19) 22 5 (.int .u8 0) 1 rfl Try.underlying22 infoU8 (by kernel_rfl) (c) [.int .u8 c] rfl (by first | rfl | (show Value.slice (some ⟨_, 0, none⟩) 1 1 = _; simp)) (fun _ _ _ => rfl) (by omega) ?_; clear HS; intro A_y' c_y' y' w1 Ny' HS; simp only [List.set_cons_zero, List.set_cons_succ] at HS; refine hK _ _ ?_; clear hK K))
      go_roundw
      case rel => exact ⟨q, _, A_y', c_y', y', by omega, rfl, by omega, rfl, ⟨by rw [Ny'.out, HY.out, HN.out, HC.out, show s.size - (q + 1) = s.size - 1 - q by omega]⟩, HS⟩
      case measure => simp [intOf] <;> omega
    · obtain rfl : p = 0 := by omega
      obtain rfl : z = -1 := by omega
      have hcv := conv_row HS.out 0 rfl
      go_wp2
      go_ret
      exact ⟨ret_str (by rw [HY.out, Nat.sub_zero, rev_str]), HS.out.below⟩
end Go.Proofs.Ytibjkjhpfmmjoaa.H
namespace Go.Proofs.Ytibjkjhpfmmjoaa.M
theorem sgI_mul (s : ByteArray) (a : Fr) : a.1 * sgI s.size = (sgn true s a).1 ∧ (sgn true s a).2 = a.2 := by
  unfold sgI sgn
  by_cases h : s.size % 2 = 1
  · simp [h]
  · simp [h]
theorem revF_zero (b : Bool) (l : Ts) : revF b (l.take 0) = fun _ => (0, 1) := by
  funext u
  unfold revF
  rw [List.take_zero, co_nil, sgn_zero]
end Go.Proofs.Ytibjkjhpfmmjoaa.M
namespace Go.Proofs.Ytibjkjhpfmmjoaa.H
open Go.RowKit Go.Proofs.YtibjkjhpfmmjoaaW.PrintWords Go.Proofs.YtibjkjhpfmmjoaaW.PrintLast Go.Proofs.YtibjkjhpfmmjoaaW.PrintMore Go.Proofs.Ytibjkjhpfmmjoaa.M
attribute [local go_sem] max2_int min2_int max_two min_two max_three min_three max_four min_four
set_option linter.unusedVariables false
set_option linter.unusedSimpArgs false
set_option maxRecDepth 100000
/-- An addition where nothing stands. -/
theorem implAddNew (g v d n : Nat) (f : ByteArray → Fr) (s : ByteArray) (a : Fr) (w : World) (hl : lev d n = true) (ht : (tS g v d n (nW d n) false).I w) (hv : (tV v d n f).I w) (hw : isWd d s = true) (hn : s.size ≤ n) (hf : f s = (0, 1)) (ha : fr a = true) :
    Calls Try.prog 104 #[.pointer (some ⟨g, 0, none⟩), .string s, .agg #[.int .i64 a.1, .int .i64 a.2]] w fun e w' => e = .returned (.tuple #[]) ∧ Mod w w' (Own2 g v) [tS g v d n (nW d n) false, tV v d n (upd f s a)] := by
  have := implAdd g v d n false f s a w hl ht hv hw hn (by rw [hf]; exact fr_zero) ha
  rw [hf, add_zero_left ha] at this
  exact this
set_option maxHeartbeats 8000000 in
theorem implReversal_true (d n : Nat) (A : Option Addr) (c : Nat) (l : Ts) (w : World) (hl : lev d n = true) (hr : KT.C w A l.length l) (hts : isTs d n l = true) :
    Calls Try.prog 53 #[.agg #[.int .i64 (d : Int), .int .i64 (n : Int), .slice A l.length c], .bool true] w fun e w' => ∃ B b, e = .returned (.agg #[.int .i64 (d : Int), .int .i64 (n : Int), .slice B (tabT d n (revF true l)).length b]) ∧ Sep w w' [rowT B b (tabT d n (revF true l))] := by
  obtain ⟨hd1, hd3, hn1, hn5⟩ := lev_bd hl
  have hll : l.length ≤ 10000 := Nat.le_trans (ts_length_le (by omega) hts) (ahead_le hd3 (by omega))
  have HR := Aside0.mk hr
  have HX := Aside0.mk hts
  have HL := Aside0.mk hl
  have HRZ := Aside0.mk (revF_zero true l)
  have HS := Aside0.mk (Sep.refl w)
  have HAN := Aside0.mk (fun g v f s a W k1 k2 k3 k4 k5 k6 => implAddNew g v d n f s a W HL.out k1 k2 k3 k4 k5 k6)
  have HSE := Aside0.mk (fun g v f W k1 k2 => implSeries g v d n false f W HL.out k1 k2)
  have HN := Aside0.mk (fun W => implNew d n HL.out W)
  obtain ⟨N, hN⟩ : ∃ N, N = nW d n := ⟨_, rfl⟩
  rw [← hN] at HN HAN HSE
  clear hr hts hl hN
  go_enter Try.func53, Try.ntmps53
  go_wp2_with (first | ((with_reducible refine gate_dst (N := 2) rfl ?_); refine bxL 26 #[.int .i64 (d : Int), .int .i64 (n : Int), .slice A l.length c] HS ?_; clear HS; intro g_x w1 hg_x HS) | ((with_reducible refine gate_dst (N := 4) rfl ?_); refine bxL 26 #[(.int .i64 0), (.int .i64 0), (.slice none 0 0)] HS ?_; clear HS; intro g_r w1 hg_r HS; have f1_ := HS.out.c 1 0 (v := .int .i64 (d : Int)) rfl rfl; have f2_ := HS.out.c 1 1 (v := .int .i64 (n : Int)) rfl rfl) | (go_at_call 79; refine (HN.out _).mono ?_; rintro e_ w1 ⟨g', v', rfl, hs⟩; replace HS := sN2 HS hs; clear hs f1_ f2_; have f1_ := HS.out.c 3 2 (v := .slice A l.length c) rfl rfl))
  rw [← HRZ.out] at HS
  go_loopw [16] (fun q w' => ∃ k : Nat, k ≤ l.length ∧ q = .int .i64 (k : Int) ∧ Aside0 (Mod w w' No [bx g' 92 #[.int .i64 (d : Int), .int .i64 (n : Int), .slice (some ⟨v', 0, none⟩) N N, .bool false], tV v' d n (revF true (l.take k)), bx g_r 26 #[(.int .i64 0), (.int .i64 0), (.slice none 0 0)], bx g_x 26 #[.int .i64 (d : Int), .int .i64 (n : Int), .slice A l.length c]])) (fun q _ => l.length - (intOf q).toNat)
  case atStart => exact ⟨0, by omega, rfl, HS⟩
  case round =>
    clear HS
    obtain ⟨k, hk, rfl, HS⟩ := hrel
    by_cases hlt : k < l.length
    · have HNX := Aside0.mk (revF_next (b := true) HX.out hlt)
      have HNW := Aside0.mk (revF_new (b := true) HX.out hlt)
      obtain ⟨ad_A, ea_, h0_, h1_, h2_⟩ := tm_at HR.out k (hlt)
      cases ea_
      obtain ⟨t_, ht_⟩ : ∃ t_, t_ = l.getD k zT := ⟨_, rfl⟩
      rw [← ht_] at h0_ h1_ h2_
      have Et_ := Aside0.mk ht_; have H0t_ := Aside0.mk h0_; have H1t_ := Aside0.mk h1_; have H2t_ := Aside0.mk h2_
      clear ht_ h0_ h1_ h2_
      rw [← Et_.out] at HNX HNW
      have htm : isTm d n t_ = true := (isTs_iff.1 HX.out).1 _ (by rw [Et_.out, getD_lt l zT k hlt]; exact List.getElem_mem hlt)
      obtain ⟨hz1, hz2, hz3, hz4⟩ := isTm_fr htm
      have hs5 : t_.1.size ≤ 5 := by omega
      have HFR := Aside0.mk (sgn_fr (b := true) (s := t_.1) hz1)
      have HW := Aside0.mk (show isWd d (rev t_.1) = true by rw [rev_wd]; exact hz3)
      have hrs : (rev t_.1).size ≤ n := by rw [rev_size]; exact hz4
      have HG1 := Aside0.mk (sgI_mul t_.1 t_.2)
      have HF1 := Aside0.mk (fr_small hz1)
      have HFT := Aside0.mk (sgn_fr (b := true) (s := t_.1) hz1)
      have HF2 := Aside0.mk (fr_small HFR.out)
      have HSP := Aside0.mk (show sgn false t_.1 t_.2 = t_.2 from rfl)
      clear htm hz1 hz2 hz3
      obtain ⟨sg, hsg⟩ : ∃ sg, sg = sgI t_.1.size := ⟨_, rfl⟩
      have HSG := Aside0.mk (fun W => hsg ▸ implSign t_.1.size (by omega) W)
      have HG2 := Aside0.mk hsg
      have hmw : wrap64 (t_.2.1 * sg) = (sgn true t_.1 t_.2).1 := by
        rw [hsg, HG1.out.1]
        have h := fr_small (HFT.out)
        unfold small at h
        exact wrap_id (by omega) (by omega)
      have HMW := Aside0.mk hmw
      clear hmw
      have HNY := Aside0.mk (show upd (revF true (l.take k)) (rev t_.1) ((sgn true t_.1 t_.2).1, t_.2.2) = revF true (l.take (k + 1)) by rw [← HNX.out]; exact congrArg (upd (revF true (l.take k)) (rev t_.1)) (Prod.ext rfl HG1.out.2.symm))
      clear hsg
      have f1_ := HS.out.old H0t_.out
      have f2_ := HS.out.old H1t_.out
      have f3_ := HS.out.old H2t_.out
      go_wp2_with (first | ((with_reducible refine gate_dst (N := 7) rfl ?_); refine bxL 38 #[(.string ⟨#[]⟩), (.int .i64 0), (.int .i64 0)] HS ?_; clear HS f1_ f2_ f3_; intro g_y w1 hg_y HS) | ((with_reducible refine gate_store (t := 38) (p := 7) rfl ?_); refine stL HS 0 0 #[.string t_.1, .int .i64 t_.2.1, .int .i64 t_.2.2] rfl rfl rfl rfl rfl ?_; clear HS; intro w1 HS))
      have hw1 := HMW.out
      have hw2 := (i64_w _).trans HMW.out
      replace HS := sD HS
      refine ps (.p 0 (.p 1 (.p 3 (.t 2 (.t 4 (.p 5 (.e 6 (.p 7 (.p 8 (.p 9 (.d 10 .done))))))))))) (fun w' => w'.cell? ⟨g_y, 1, none⟩ = some (.int .i64 t_.2.1) ∧ w'.cell? ⟨g_y, 0, none⟩ = some (.string t_.1)) [10] ⟨HS.out.c 0 1 (v := .int .i64 t_.2.1) rfl rfl, HS.out.c 0 0 (v := .string t_.1) rfl rfl⟩ (fun hHeld => ?_)
      repeat (first | ((with_reducible refine gate_p ?_); refine rp rfl rfl ?_) | ((with_reducible refine gate_t ?_); refine rt rfl rfl hHeld ?_))
      refine run_e rfl (fun K hK => ?_)
      refine gc Try.func103 (HSG.out _) rfl rfl ?_
      rintro e_ w1 ⟨rfl, hb⟩
      refine ⟨_, rfl, ?_⟩
      replace HS := sB HS hb
      clear hb
      refine ge hK ⟨HS.out.c 0 1 (v := .int .i64 t_.2.1) rfl rfl, HS.out.c 0 0 (v := .string t_.1) rfl rfl⟩ (fun hHeld => ?_)
      clear hK K
      repeat (first | ((with_reducible refine gate_p ?_); refine rp rfl rfl ?_) | ((with_reducible refine gate_t ?_); refine rt rfl rfl hHeld ?_))
      refine run_d rfl (fun K hK => ?_)
      refine st1 HS 0 1 #[.string t_.1, (.int .i64 (sgn true t_.1 t_.2).1), .int .i64 t_.2.2] rfl rfl rfl rfl rfl ?_
      clear HS
      intro w1 HS
      refine goD hK rfl ?_
      clear hK K
      refine run_done ?_
      clear hHeld
      clear hw1 hw2
      go_wp2
      replace HS := sD HS
      refine ps (.p 0 (.p 1 (.p 4 (.t 2 (.t 5 (.e 3 (.d 6 .done))))))) (fun w' => w'.cell? ⟨g_y, 0, none⟩ = some (.string t_.1) ∧ w'.cell? ⟨g_y, 1, none⟩ = some (.int .i64 (sgn true t_.1 t_.2).1) ∧ w'.cell? ⟨g_y, 2, none⟩ = some (.int .i64 t_.2.2)) [6] ⟨HS.out.c 0 0 (v := .string t_.1) rfl rfl, HS.out.c 0 1 (v := (.int .i64 (sgn true t_.1 t_.2).1)) rfl rfl, HS.out.c 0 2 (v := .int .i64 t_.2.2) rfl rfl⟩ (fun hHeld => ?_)
      repeat (first | ((with_reducible refine gate_p ?_); refine rp rfl rfl ?_) | ((with_reducible refine gate_t ?_); refine rt rfl rfl hHeld ?_))
      refine run_e rfl (fun K hK => ?_)
      refine gc Try.func105 (implReversed t_.1 (by omega) _) rfl rfl ?_
      rintro e_ w1 ⟨rfl, hb⟩
      refine ⟨_, rfl, ?_⟩
      replace HS := sB HS hb
      clear hb
      refine ge hK ⟨HS.out.c 0 0 (v := .string t_.1) rfl rfl, HS.out.c 0 1 (v := (.int .i64 (sgn true t_.1 t_.2).1)) rfl rfl, HS.out.c 0 2 (v := .int .i64 t_.2.2) rfl rfl⟩ (fun hHeld => ?_)
      clear hK K
      refine run_d rfl (fun K hK => ?_)
      refine gc Try.func104 (HAN.out g' v' (revF true (l.take k)) (rev t_.1) ((sgn true t_.1 t_.2).1, t_.2.2) _ (HS.out.at (i := 1) rfl) (HS.out.at (i := 2) rfl) HW.out hrs HNW.out (HG1.out.2 ▸ HFR.out)) rfl rfl ?_
      rintro e_ w1 ⟨rfl, hs⟩
      refine ⟨_, rfl, ?_⟩
      replace HS : Aside0 (Mod _ _ _ [_, _, _, _, _]) := sM2 HS 1 2 [0, 3, 4] rfl rfl hs
      clear hs
      refine gd hK ?_
      clear hK K
      refine run_done ?_
      clear hHeld
      go_wp2
      go_roundw
      case rel => exact ⟨k + 1, by omega, by go_num, sX (HNY.out ▸ HS) [0, 1, 3, 4]⟩
      case measure => simp [intOf]; omega
    · obtain rfl : k = l.length := by omega
      rw [List.take_length] at HS
      go_wp2_with (first | (go_at_call 106; refine (HSE.out g' v' (revF true l) _ (HS.out.at (i := 0) rfl) (HS.out.at (i := 1) rfl)).mono ?_; rintro e_ w1 ⟨B, b, rfl, hs⟩; replace HS := sN1 HS hs; clear hs) | ((with_reducible refine gate_store (t := 26) (p := 4) rfl ?_); refine stL HS 3 0 #[.int .i64 (d : Int), .int .i64 (n : Int), .slice B (tabT d n (revF true l)).length b] rfl rfl rfl rfl rfl ?_; clear HS; intro w1 HS))
      refine bodyPost_ret (results_cell_row rfl _ _ g_r 26 #[.int .i64 (d : Int), .int .i64 (n : Int), .slice B (tabT d n (revF true l)).length b] (0, 0) _ rfl (HS.out.at (i := 3) rfl) Try.underlying26 rfl (by kernel_rfl)) rfl ?_
      exact ⟨B, b, rfl, HS.out.sel [0] (by decide)⟩
set_option maxHeartbeats 8000000 in
theorem implReversal_false (d n : Nat) (A : Option Addr) (c : Nat) (l : Ts) (w : World) (hl : lev d n = true) (hr : KT.C w A l.length l) (hts : isTs d n l = true) :
    Calls Try.prog 53 #[.agg #[.int .i64 (d : Int), .int .i64 (n : Int), .slice A l.length c], .bool false] w fun e w' => ∃ B b, e = .returned (.agg #[.int .i64 (d : Int), .int .i64 (n : Int), .slice B (tabT d n (revF false l)).length b]) ∧ Sep w w' [rowT B b (tabT d n (revF false l))] := by
  obtain ⟨hd1, hd3, hn1, hn5⟩ := lev_bd hl
  have hll : l.length ≤ 10000 := Nat.le_trans (ts_length_le (by omega) hts) (ahead_le hd3 (by omega))
  have HR := Aside0.mk hr
  have HX := Aside0.mk hts
  have HL := Aside0.mk hl
  have HRZ := Aside0.mk (revF_zero false l)
  have HS := Aside0.mk (Sep.refl w)
  have HAN := Aside0.mk (fun g v f s a W k1 k2 k3 k4 k5 k6 => implAddNew g v d n f s a W HL.out k1 k2 k3 k4 k5 k6)
  have HSE := Aside0.mk (fun g v f W k1 k2 => implSeries g v d n false f W HL.out k1 k2)
  have HN := Aside0.mk (fun W => implNew d n HL.out W)
  obtain ⟨N, hN⟩ : ∃ N, N = nW d n := ⟨_, rfl⟩
  rw [← hN] at HN HAN HSE
  clear hr hts hl hN
  go_enter Try.func53, Try.ntmps53
  go_wp2_with (first | ((with_reducible refine gate_dst (N := 2) rfl ?_); refine bxL 26 #[.int .i64 (d : Int), .int .i64 (n : Int), .slice A l.length c] HS ?_; clear HS; intro g_x w1 hg_x HS) | ((with_reducible refine gate_dst (N := 4) rfl ?_); refine bxL 26 #[(.int .i64 0), (.int .i64 0), (.slice none 0 0)] HS ?_; clear HS; intro g_r w1 hg_r HS; have f1_ := HS.out.c 1 0 (v := .int .i64 (d : Int)) rfl rfl; have f2_ := HS.out.c 1 1 (v := .int .i64 (n : Int)) rfl rfl) | (go_at_call 79; refine (HN.out _).mono ?_; rintro e_ w1 ⟨g', v', rfl, hs⟩; replace HS := sN2 HS hs; clear hs f1_ f2_; have f1_ := HS.out.c 3 2 (v := .slice A l.length c) rfl rfl))
  rw [← HRZ.out] at HS
  go_loopw [16] (fun q w' => ∃ k : Nat, k ≤ l.length ∧ q = .int .i64 (k : Int) ∧ Aside0 (Mod w w' No [bx g' 92 #[.int .i64 (d : Int), .int .i64 (n : Int), .slice (some ⟨v', 0, none⟩) N N, .bool false], tV v' d n (revF false (l.take k)), bx g_r 26 #[(.int .i64 0), (.int .i64 0), (.slice none 0 0)], bx g_x 26 #[.int .i64 (d : Int), .int .i64 (n : Int), .slice A l.length c]])) (fun q _ => l.length - (intOf q).toNat)
  case atStart => exact ⟨0, by omega, rfl, HS⟩
  case round =>
    clear HS
    obtain ⟨k, hk, rfl, HS⟩ := hrel
    by_cases hlt : k < l.length
    · have HNX := Aside0.mk (revF_next (b := false) HX.out hlt)
      have HNW := Aside0.mk (revF_new (b := false) HX.out hlt)
      obtain ⟨ad_A, ea_, h0_, h1_, h2_⟩ := tm_at HR.out k (hlt)
      cases ea_
      obtain ⟨t_, ht_⟩ : ∃ t_, t_ = l.getD k zT := ⟨_, rfl⟩
      rw [← ht_] at h0_ h1_ h2_
      have Et_ := Aside0.mk ht_; have H0t_ := Aside0.mk h0_; have H1t_ := Aside0.mk h1_; have H2t_ := Aside0.mk h2_
      clear ht_ h0_ h1_ h2_
      rw [← Et_.out] at HNX HNW
      have htm : isTm d n t_ = true := (isTs_iff.1 HX.out).1 _ (by rw [Et_.out, getD_lt l zT k hlt]; exact List.getElem_mem hlt)
      obtain ⟨hz1, hz2, hz3, hz4⟩ := isTm_fr htm
      have hs5 : t_.1.size ≤ 5 := by omega
      have HFR := Aside0.mk (sgn_fr (b := false) (s := t_.1) hz1)
      have HW := Aside0.mk (show isWd d (rev t_.1) = true by rw [rev_wd]; exact hz3)
      have hrs : (rev t_.1).size ≤ n := by rw [rev_size]; exact hz4
      have HG1 := Aside0.mk (sgI_mul t_.1 t_.2)
      have HF1 := Aside0.mk (fr_small hz1)
      have HFT := Aside0.mk (sgn_fr (b := true) (s := t_.1) hz1)
      have HF2 := Aside0.mk (fr_small HFR.out)
      have HSP := Aside0.mk (show sgn false t_.1 t_.2 = t_.2 from rfl)
      clear htm hz1 hz2 hz3
      obtain ⟨sg, hsg⟩ : ∃ sg, sg = sgI t_.1.size := ⟨_, rfl⟩
      have HSG := Aside0.mk (fun W => hsg ▸ implSign t_.1.size (by omega) W)
      have HG2 := Aside0.mk hsg
      have hmw : wrap64 (t_.2.1 * sg) = (sgn true t_.1 t_.2).1 := by
        rw [hsg, HG1.out.1]
        have h := fr_small (HFT.out)
        unfold small at h
        exact wrap_id (by omega) (by omega)
      have HMW := Aside0.mk hmw
      clear hmw
      have HNY := Aside0.mk (show upd (revF false (l.take k)) (rev t_.1) (t_.2.1, t_.2.2) = revF false (l.take (k + 1)) by rw [← HNX.out]; exact congrArg (upd (revF false (l.take k)) (rev t_.1)) (rfl))
      clear hsg
      have f1_ := HS.out.old H0t_.out
      have f2_ := HS.out.old H1t_.out
      have f3_ := HS.out.old H2t_.out
      go_wp2_with (first | ((with_reducible refine gate_dst (N := 7) rfl ?_); refine bxL 38 #[(.string ⟨#[]⟩), (.int .i64 0), (.int .i64 0)] HS ?_; clear HS f1_ f2_ f3_; intro g_y w1 hg_y HS) | ((with_reducible refine gate_store (t := 38) (p := 7) rfl ?_); refine stL HS 0 0 #[.string t_.1, .int .i64 t_.2.1, .int .i64 t_.2.2] rfl rfl rfl rfl rfl ?_; clear HS; intro w1 HS))
      replace HS := sD HS
      refine ps (.p 0 (.p 1 (.p 4 (.t 2 (.t 5 (.e 3 (.d 6 .done))))))) (fun w' => w'.cell? ⟨g_y, 0, none⟩ = some (.string t_.1) ∧ w'.cell? ⟨g_y, 1, none⟩ = some (.int .i64 t_.2.1) ∧ w'.cell? ⟨g_y, 2, none⟩ = some (.int .i64 t_.2.2)) [6] ⟨HS.out.c 0 0 (v := .string t_.1) rfl rfl, HS.out.c 0 1 (v := .int .i64 t_.2.1) rfl rfl, HS.out.c 0 2 (v := .int .i64 t_.2.2) rfl rfl⟩ (fun hHeld => ?_)
      repeat (first | ((with_reducible refine gate_p ?_); refine rp rfl rfl ?_) | ((with_reducible refine gate_t ?_); refine rt rfl rfl hHeld ?_))
      refine run_e rfl (fun K hK => ?_)
      refine gc Try.func105 (implReversed t_.1 (by omega) _) rfl rfl ?_
      rintro e_ w1 ⟨rfl, hb⟩
      refine ⟨_, rfl, ?_⟩
      replace HS := sB HS hb
      clear hb
      refine ge hK ⟨HS.out.c 0 0 (v := .string t_.1) rfl rfl, HS.out.c 0 1 (v := .int .i64 t_.2.1) rfl rfl, HS.out.c 0 2 (v := .int .i64 t_.2.2) rfl rfl⟩ (fun hHeld => ?_)
      clear hK K
      refine run_d rfl (fun K hK => ?_)
      refine gc Try.func104 (HAN.out g' v' (revF false (l.take k)) (rev t_.1) (t_.2.1, t_.2.2) _ (HS.out.at (i := 1) rfl) (HS.out.at (i := 2) rfl) HW.out hrs HNW.out (HFR.out)) rfl rfl ?_
      rintro e_ w1 ⟨rfl, hs⟩
      refine ⟨_, rfl, ?_⟩
      replace HS : Aside0 (Mod _ _ _ [_, _, _, _, _]) := sM2 HS 1 2 [0, 3, 4] rfl rfl hs
      clear hs
      refine gd hK ?_
      clear hK K
      refine run_done ?_
      clear hHeld
      go_wp2
      go_roundw
      case rel => exact ⟨k + 1, by omega, by go_num, sX (HNY.out ▸ HS) [0, 1, 3, 4]⟩
      case measure => simp [intOf]; omega
    · obtain rfl : k = l.length := by omega
      rw [List.take_length] at HS
      go_wp2_with (first | (go_at_call 106; refine (HSE.out g' v' (revF false l) _ (HS.out.at (i := 0) rfl) (HS.out.at (i := 1) rfl)).mono ?_; rintro e_ w1 ⟨B, b, rfl, hs⟩; replace HS := sN1 HS hs; clear hs) | ((with_reducible refine gate_store (t := 26) (p := 4) rfl ?_); refine stL HS 3 0 #[.int .i64 (d : Int), .int .i64 (n : Int), .slice B (tabT d n (revF false l)).length b] rfl rfl rfl rfl rfl ?_; clear HS; intro w1 HS))
      refine bodyPost_ret (results_cell_row rfl _ _ g_r 26 #[.int .i64 (d : Int), .int .i64 (n : Int), .slice B (tabT d n (revF false l)).length b] (0, 0) _ rfl (HS.out.at (i := 3) rfl) Try.underlying26 rfl (by kernel_rfl)) rfl ?_
      exact ⟨B, b, rfl, HS.out.sel [0] (by decide)⟩
end Go.Proofs.Ytibjkjhpfmmjoaa.H
namespace Go.Proofs.Ytibjkjhpfmmjoaa.M
theorem rev_put {d n : Nat} {b : Bool} {l : Ts} {k : Nat} (h : isTs d n l = true) (hk : k < l.length) {z : Ts} (hz : isTs d n z = true) (hc : ∀ w, co z w = revF b (l.take k) w) :
    ∃ z', put z (rev (l.getD k H.zT).1) (sgn b (l.getD k H.zT).1 (l.getD k H.zT).2) = some z' ∧ isTs d n z' = true ∧ ∀ w, co z' w = revF b (l.take (k + 1)) w := by
  have htm : isTm d n (l.getD k H.zT) = true := (isTs_iff.1 h).1 _ (by rw [H.getD_lt l H.zT k hk]; exact List.getElem_mem hk)
  obtain ⟨z1, z2, z3, z4⟩ := isTm_fr htm
  have hf := sgn_fr (b := b) (s := (l.getD k H.zT).1) z1
  have h0 : co z (rev (l.getD k H.zT).1) = (0, 1) := by rw [hc]; exact revF_new h hk
  rcases put_co hz (w := rev (l.getD k H.zT).1) (by rw [rev_wd]; exact z3) (by rw [rev_size]; exact z4) hf with ⟨_, e⟩ | ⟨z', s, e1, e2, e3, e4, _⟩
  · rw [h0, add_zero_left hf] at e; cases e
  · rw [h0, add_zero_left hf] at e2
    injection e2 with e2
    subst e2
    refine ⟨z', e1, e3, fun w => ?_⟩
    rw [e4, ← revF_next h hk]
    unfold upd
    split
    · rfl
    · exact hc w
def revR (b : Bool) (d n : Int) (l : Ts) : Rs := if isS d n l = true then (d, n, tabT d.toNat n.toNat (revF b l), 0) else noS 1
theorem sgn_odd {s : ByteArray} {a : Fr} (h : s.size % 2 = 1) : sgn true s a = (-a.1, a.2) := by unfold sgn; rw [if_pos (by simp [h])]
theorem sgn_even {s : ByteArray} {a : Fr} (h : ¬ s.size % 2 = 1) : sgn true s a = a := by unfold sgn; rw [if_neg (by simp [h])]
end Go.Proofs.Ytibjkjhpfmmjoaa.M
namespace Go.Proofs.Ytibjkjhpfmmjoaa.H
open Go.RowKit Go.Proofs.YtibjkjhpfmmjoaaW.PrintWords Go.Proofs.YtibjkjhpfmmjoaaW.PrintLast Go.Proofs.YtibjkjhpfmmjoaaW.PrintMore Go.Proofs.Ytibjkjhpfmmjoaa.M
attribute [local go_sem] max2_int min2_int max_two min_two max_three min_three max_four min_four resP
set_option linter.unusedVariables false
set_option linter.unusedSimpArgs false
set_option maxRecDepth 100000
set_option maxHeartbeats 8000000 in
theorem specReversal_true (d n : Nat) (hd : d ≤ 3) (hn : n ≤ 5) (A : Option Addr) (c : Nat) (l : Ts) (w : World) (hr : KT.C w A l.length l) (hts : isTs d n l = true) :
    Calls Try.prog 55 #[.agg #[.int .i64 (d : Int), .int .i64 (n : Int), .slice A l.length c], .bool true] w fun e w' => ∃ B b, e = .returned (.agg #[.int .i64 (d : Int), .int .i64 (n : Int), .slice B (tabT d n (revF true l)).length b]) ∧ Sep w w' [rowT B b (tabT d n (revF true l))] := by
  have hll := (bnd_iff.1 (isTs_bnd hd hn hts)).1
  have HR := Aside0.mk hr
  have HX := Aside0.mk hts
  have HE := Aside0.mk (fun z (hz : isTs d n z = true) (hc : ∀ w, co z w = revF true (l.take l.length) w) => (eq_tabT (by omega) hz (revF_good hts) (fun w _ _ => by rw [hc, List.take_length]) : z = tabT d n (revF true l)))
  have HS := Aside0.mk (Sep.refl w)
  clear hr hts
  go_enter Try.func55, Try.ntmps55
  go_wp2_with (first | ((with_reducible refine gate_dst (N := 2) rfl ?_); refine bxL 26 #[.int .i64 (d : Int), .int .i64 (n : Int), .slice A l.length c] HS ?_; clear HS; intro g_x w1 hg_x HS) | ((with_reducible refine gate_dst (N := 4) rfl ?_); refine bxL 26 #[(.int .i64 0), (.int .i64 0), (.slice none 0 0)] HS ?_; clear HS; intro g_r w1 hg_r HS; have f1_ := HS.out.c 1 0 (v := .int .i64 (d : Int)) rfl rfl; have f2_ := HS.out.c 1 1 (v := .int .i64 (n : Int)) rfl rfl; have f3_ := HS.out.c 1 2 (v := .slice A l.length c) rfl rfl) | (go_at_call 62; refine (specEmpty d n A l.length c _).mono ?_; rintro e_ w1 ⟨B, b, rfl, hs⟩; replace HS := sN1 HS hs; clear hs f1_ f2_ f3_) | ((with_reducible refine gate_dst (N := 5) rfl ?_); refine bxL 26 #[(.int .i64 0), (.int .i64 0), (.slice none 0 0)] HS ?_; clear HS; intro g_q w1 hg_q HS) | ((with_reducible refine gate_store (t := 26) (p := 5) rfl ?_); refine stL HS 0 0 #[.int .i64 (d : Int), .int .i64 (n : Int), .slice B ([] : Ts).length b] rfl rfl rfl rfl rfl ?_; clear HS; intro w1 HS))
  go_loopw [6] (fun v w' => ∃ (i : Nat) (B : Option Addr) (b : Nat) (z : Ts), i ≤ l.length ∧ v = .int .i64 (i : Int) ∧ Aside0 (isTs d n z = true) ∧ Aside0 (∀ w, co z w = revF true (l.take i) w) ∧ Aside0 (Mod w w' No [bx g_q 26 #[.int .i64 (d : Int), .int .i64 (n : Int), .slice B z.length b], rowT B b z, bx g_r 26 #[(.int .i64 0), (.int .i64 0), (.slice none 0 0)], bx g_x 26 #[.int .i64 (d : Int), .int .i64 (n : Int), .slice A l.length c]])) (fun v _ => l.length - (intOf v).toNat)
  case atStart => exact ⟨0, B, b, [], by omega, rfl, ⟨isTs_iff.2 ⟨fun _ h => (by cases h), List.Pairwise.nil⟩⟩, ⟨fun w => by rw [revF_zero]; rfl⟩, HS⟩
  case round =>
    clear HS
    obtain ⟨i, B, b, z, hi, rfl, HZ, HC, HS⟩ := hrel
    by_cases hlt : i < l.length
    · obtain ⟨z', hz1, hz2, hz3⟩ := rev_put HX.out hlt HZ.out HC.out
      have htm : isTm d n (l.getD i zT) = true := (isTs_iff.1 HX.out).1 _ (by rw [getD_lt l zT i hlt]; exact List.getElem_mem hlt)
      have HZ2 := Aside0.mk hz2
      have HC2 := Aside0.mk hz3
      have HP := Aside0.mk hz1
      clear hz1 hz2 hz3
      obtain ⟨ad_A, ea_, h0_, h1_, h2_⟩ := tm_at HR.out i (hlt)
      cases ea_
      obtain ⟨t, ht_⟩ : ∃ t_, t_ = l.getD i zT := ⟨_, rfl⟩
      rw [← ht_] at h0_ h1_ h2_
      have Et := Aside0.mk ht_; have H0t := Aside0.mk h0_; have H1t := Aside0.mk h1_; have H2t := Aside0.mk h2_
      clear ht_ h0_ h1_ h2_
      rw [← Et.out] at htm HP
      obtain ⟨k1, k2, k3, k4⟩ := isTm_fr htm
      have HSM := Aside0.mk (fr_small k1)
      have HSS := Aside0.mk (fr_small (sgn_fr (b := true) (s := t.1) k1))
      have hs5 : t.1.size ≤ 5 := by omega
      have HRS := Aside0.mk (show (rev t.1).size ≤ 1048576 by rw [rev_size]; omega)
      have HPC := Aside0.mk (fun (x y : Int) (e : sgn true t.1 t.2 = (x, y)) W q1 q2 => (by have := specPut B b z (rev t.1) x y W q1 q2 (isTs_bnd hd hn HZ.out) (isTs_small HZ.out) HRS.out (e ▸ HSS.out); rwa [show put z (rev t.1) (x, y) = some z' from e ▸ HP.out] at this : Calls Try.prog 110 #[.slice B z.length b, .string (rev t.1), .agg #[.int .i64 x, .int .i64 y]] W fun e w' => ∃ C c, e = .returned (.tuple #[.slice C (resP (some z')).1.length c, .bool (resP (some z')).2]) ∧ Sep W w' [rowT C c (resP (some z')).1]))
      clear htm k1 k2 k3 k4
      by_cases hp : t.1.size % 2 = 1
      · have HPR := Aside0.mk (sgn_odd (a := t.2) hp)
        have hq : Int.tmod (t.1.size : Int) 2 = 1 := by rw [Int.tmod_eq_emod_of_nonneg (Int.natCast_nonneg _)]; omega
        have hng : wrap64 (-t.2.1) = -t.2.1 := by have h := HSM.out; unfold small at h; exact wrap_id (by omega) (by omega)
        have hng2 := (i64_w _).trans hng
        clear hp
        have f1_ := HS.out.c 3 2 (v := .slice (some ad_A) l.length c) rfl rfl
        have f2_ := HS.out.old H1t.out
        have f3_ := c2 (HS.out.old H2t.out)
        go_wp2_with (first | ((with_reducible refine gate_dst (N := 7) rfl ?_); refine bxL 34 #[(.int .i64 0), (.int .i64 0)] HS ?_; clear HS f1_ f2_ f3_; intro g_y w1 hg_y HS) | ((with_reducible refine gate_store (t := 34) (p := 7) rfl ?_); refine stL HS 0 0 #[.int .i64 t.2.1, .int .i64 t.2.2] rfl rfl rfl rfl rfl ?_; clear HS; intro w1 HS; have f1_ := HS.out.c 4 2 (v := .slice (some ad_A) l.length c) rfl rfl; have f2_ := HS.out.old H0t.out; have f3_ := HS.out.c 0 0 (v := .int .i64 t.2.1) rfl rfl) | ((with_reducible refine gate_store (t := 2) (p := 40) rfl ?_); refine stL HS 0 0 #[(.int .i64 (-t.2.1)), .int .i64 t.2.2] rfl rfl rfl rfl rfl ?_; clear HS f1_ f2_ f3_; intro w1 HS))
        replace HS := sD HS
        refine ps (.p 0 (.p 2 (.p 4 (.t 1 (.t 3 (.p 5 (.p 6 (.t 7 (.t 9 (.e 8 (.d 10 (.p 11 (.p 12 (.p 13 (.p 14 (.p 15 .done)))))))))))))))) (fun w' => w'.cell? ⟨g_q, 2, none⟩ = some (.slice B z.length b) ∧ w'.cell? ⟨g_x, 2, none⟩ = some (.slice (some ad_A) l.length c) ∧ w'.cell? (ad_A.add (i * 3)) = some (.string t.1) ∧ w'.cell? ⟨g_y, 0, none⟩ = some (.int .i64 (-t.2.1)) ∧ w'.cell? ⟨g_y, 1, none⟩ = some (.int .i64 t.2.2)) [10] ⟨HS.out.c 1 2 (v := .slice B z.length b) rfl rfl, HS.out.c 4 2 (v := .slice (some ad_A) l.length c) rfl rfl, HS.out.old H0t.out, HS.out.c 0 0 (v := (.int .i64 (-t.2.1))) rfl rfl, HS.out.c 0 1 (v := .int .i64 t.2.2) rfl rfl⟩ (fun hHeld => ?_)
        repeat (first | ((with_reducible refine gate_p ?_); refine rp rfl rfl ?_) | ((with_reducible refine gate_t ?_); refine rt rfl rfl hHeld ?_))
        refine run_e rfl (fun K hK => ?_)
        refine gc Try.func111 (specTurned t.1 (by omega) _) rfl rfl ?_
        rintro e_ w1 ⟨rfl, hb⟩
        refine ⟨_, rfl, ?_⟩
        replace HS := sB HS hb
        clear hb
        refine ge hK ⟨HS.out.c 1 2 (v := .slice B z.length b) rfl rfl, HS.out.c 4 2 (v := .slice (some ad_A) l.length c) rfl rfl, HS.out.old H0t.out, HS.out.c 0 0 (v := (.int .i64 (-t.2.1))) rfl rfl, HS.out.c 0 1 (v := .int .i64 t.2.2) rfl rfl⟩ (fun hHeld => ?_)
        clear hK K
        refine run_d rfl (fun K hK => ?_)
        refine gc Try.func110 (HPC.out (-t.2.1) (t.2.2) HPR.out _ (HS.out.reads 2 rfl) (HS.out.cap 2 rfl)) rfl rfl ?_
        rintro e_ w1 ⟨B2, b2, rfl, hs⟩
        refine ⟨_, rfl, ?_⟩
        replace HS := sN1 HS hs
        clear hs
        refine gd hK ?_
        clear hK K
        repeat (first | ((with_reducible refine gate_p ?_); refine rp rfl rfl ?_) | ((with_reducible refine gate_t ?_); refine rt rfl rfl hHeld ?_))
        refine run_done ?_
        clear hHeld
        go_wp2_with (first | ((with_reducible refine gate_store (t := 24) (p := 56) rfl ?_); refine stL HS 2 2 #[.int .i64 (d : Int), .int .i64 (n : Int), (.slice B2 z'.length b2)] rfl rfl rfl rfl rfl ?_; clear HS; intro w1 HS))
        go_roundw
        case rel => exact ⟨i + 1, B2, b2, z', by omega, by go_num, HZ2, HC2, sX HS [2, 0, 4, 5]⟩
        case measure => simp [intOf]; omega
      · have HPR := Aside0.mk (sgn_even (a := t.2) hp)
        have hq : Int.tmod (t.1.size : Int) 2 = 0 := by rw [Int.tmod_eq_emod_of_nonneg (Int.natCast_nonneg _)]; omega
        clear hp
        have f1_ := HS.out.c 3 2 (v := .slice (some ad_A) l.length c) rfl rfl
        have f2_ := HS.out.old H1t.out
        have f3_ := c2 (HS.out.old H2t.out)
        go_wp2_with (first | ((with_reducible refine gate_dst (N := 7) rfl ?_); refine bxL 34 #[(.int .i64 0), (.int .i64 0)] HS ?_; clear HS f1_ f2_ f3_; intro g_y w1 hg_y HS) | ((with_reducible refine gate_store (t := 34) (p := 7) rfl ?_); refine stL HS 0 0 #[.int .i64 t.2.1, .int .i64 t.2.2] rfl rfl rfl rfl rfl ?_; clear HS; intro w1 HS; have f1_ := HS.out.c 4 2 (v := .slice (some ad_A) l.length c) rfl rfl; have f2_ := HS.out.old H0t.out))
        clear f1_ f2_
        replace HS := sD HS
        refine ps (.p 0 (.p 2 (.p 4 (.t 1 (.t 3 (.p 5 (.p 6 (.t 7 (.t 9 (.e 8 (.d 10 (.p 11 (.p 12 (.p 13 (.p 14 (.p 15 .done)))))))))))))))) (fun w' => w'.cell? ⟨g_q, 2, none⟩ = some (.slice B z.length b) ∧ w'.cell? ⟨g_x, 2, none⟩ = some (.slice (some ad_A) l.length c) ∧ w'.cell? (ad_A.add (i * 3)) = some (.string t.1) ∧ w'.cell? ⟨g_y, 0, none⟩ = some (.int .i64 t.2.1) ∧ w'.cell? ⟨g_y, 1, none⟩ = some (.int .i64 t.2.2)) [10] ⟨HS.out.c 1 2 (v := .slice B z.length b) rfl rfl, HS.out.c 4 2 (v := .slice (some ad_A) l.length c) rfl rfl, HS.out.old H0t.out, HS.out.c 0 0 (v := .int .i64 t.2.1) rfl rfl, HS.out.c 0 1 (v := .int .i64 t.2.2) rfl rfl⟩ (fun hHeld => ?_)
        repeat (first | ((with_reducible refine gate_p ?_); refine rp rfl rfl ?_) | ((with_reducible refine gate_t ?_); refine rt rfl rfl hHeld ?_))
        refine run_e rfl (fun K hK => ?_)
        refine gc Try.func111 (specTurned t.1 (by omega) _) rfl rfl ?_
        rintro e_ w1 ⟨rfl, hb⟩
        refine ⟨_, rfl, ?_⟩
        replace HS := sB HS hb
        clear hb
        refine ge hK ⟨HS.out.c 1 2 (v := .slice B z.length b) rfl rfl, HS.out.c 4 2 (v := .slice (some ad_A) l.length c) rfl rfl, HS.out.old H0t.out, HS.out.c 0 0 (v := .int .i64 t.2.1) rfl rfl, HS.out.c 0 1 (v := .int .i64 t.2.2) rfl rfl⟩ (fun hHeld => ?_)
        clear hK K
        refine run_d rfl (fun K hK => ?_)
        refine gc Try.func110 (HPC.out (t.2.1) (t.2.2) HPR.out _ (HS.out.reads 2 rfl) (HS.out.cap 2 rfl)) rfl rfl ?_
        rintro e_ w1 ⟨B2, b2, rfl, hs⟩
        refine ⟨_, rfl, ?_⟩
        replace HS := sN1 HS hs
        clear hs
        refine gd hK ?_
        clear hK K
        repeat (first | ((with_reducible refine gate_p ?_); refine rp rfl rfl ?_) | ((with_reducible refine gate_t ?_); refine rt rfl rfl hHeld ?_))
        refine run_done ?_
        clear hHeld
        go_wp2_with (first | ((with_reducible refine gate_store (t := 24) (p := 56) rfl ?_); refine stL HS 2 2 #[.int .i64 (d : Int), .int .i64 (n : Int), (.slice B2 z'.length b2)] rfl rfl rfl rfl rfl ?_; clear HS; intro w1 HS))
        go_roundw
        case rel => exact ⟨i + 1, B2, b2, z', by omega, by go_num, HZ2, HC2, sX HS [2, 0, 4, 5]⟩
        case measure => simp [intOf]; omega
    · obtain rfl : i = l.length := by omega
      have f1_ := HS.out.c 3 2 (v := .slice A l.length c) rfl rfl
      have f2_ := HS.out.c 0 0 (v := .int .i64 (d : Int)) rfl rfl
      have f3_ := HS.out.c 0 1 (v := .int .i64 (n : Int)) rfl rfl
      have f4_ := HS.out.c 0 2 (v := .slice B z.length b) rfl rfl
      go_wp2_with (first | ((with_reducible refine gate_store (t := 26) (p := 4) rfl ?_); refine stL HS 2 0 #[.int .i64 (d : Int), .int .i64 (n : Int), .slice B z.length b] rfl rfl rfl rfl rfl ?_; clear HS f1_ f2_ f3_ f4_; intro w1 HS))
      refine bodyPost_ret (results_cell_row rfl _ _ g_r 26 #[.int .i64 (d : Int), .int .i64 (n : Int), .slice B z.length b] (0, 0) _ rfl (HS.out.at (i := 2) rfl) Try.underlying26 rfl (by kernel_rfl)) rfl ?_
      obtain rfl := HE.out z HZ.out HC.out
      exact ⟨B, b, rfl, HS.out.sel [1] (by decide)⟩
set_option maxHeartbeats 8000000 in
theorem specReversal_false (d n : Nat) (hd : d ≤ 3) (hn : n ≤ 5) (A : Option Addr) (c : Nat) (l : Ts) (w : World) (hr : KT.C w A l.length l) (hts : isTs d n l = true) :
    Calls Try.prog 55 #[.agg #[.int .i64 (d : Int), .int .i64 (n : Int), .slice A l.length c], .bool false] w fun e w' => ∃ B b, e = .returned (.agg #[.int .i64 (d : Int), .int .i64 (n : Int), .slice B (tabT d n (revF false l)).length b]) ∧ Sep w w' [rowT B b (tabT d n (revF false l))] := by
  have hll := (bnd_iff.1 (isTs_bnd hd hn hts)).1
  have HR := Aside0.mk hr
  have HX := Aside0.mk hts
  have HE := Aside0.mk (fun z (hz : isTs d n z = true) (hc : ∀ w, co z w = revF false (l.take l.length) w) => (eq_tabT (by omega) hz (revF_good hts) (fun w _ _ => by rw [hc, List.take_length]) : z = tabT d n (revF false l)))
  have HS := Aside0.mk (Sep.refl w)
  clear hr hts
  go_enter Try.func55, Try.ntmps55
  go_wp2_with (first | ((with_reducible refine gate_dst (N := 2) rfl ?_); refine bxL 26 #[.int .i64 (d : Int), .int .i64 (n : Int), .slice A l.length c] HS ?_; clear HS; intro g_x w1 hg_x HS) | ((with_reducible refine gate_dst (N := 4) rfl ?_); refine bxL 26 #[(.int .i64 0), (.int .i64 0), (.slice none 0 0)] HS ?_; clear HS; intro g_r w1 hg_r HS; have f1_ := HS.out.c 1 0 (v := .int .i64 (d : Int)) rfl rfl; have f2_ := HS.out.c 1 1 (v := .int .i64 (n : Int)) rfl rfl; have f3_ := HS.out.c 1 2 (v := .slice A l.length c) rfl rfl) | (go_at_call 62; refine (specEmpty d n A l.length c _).mono ?_; rintro e_ w1 ⟨B, b, rfl, hs⟩; replace HS := sN1 HS hs; clear hs f1_ f2_ f3_) | ((with_reducible refine gate_dst (N := 5) rfl ?_); refine bxL 26 #[(.int .i64 0), (.int .i64 0), (.slice none 0 0)] HS ?_; clear HS; intro g_q w1 hg_q HS) | ((with_reducible refine gate_store (t := 26) (p := 5) rfl ?_); refine stL HS 0 0 #[.int .i64 (d : Int), .int .i64 (n : Int), .slice B ([] : Ts).length b] rfl rfl rfl rfl rfl ?_; clear HS; intro w1 HS))
  go_loopw [6] (fun v w' => ∃ (i : Nat) (B : Option Addr) (b : Nat) (z : Ts), i ≤ l.length ∧ v = .int .i64 (i : Int) ∧ Aside0 (isTs d n z = true) ∧ Aside0 (∀ w, co z w = revF false (l.take i) w) ∧ Aside0 (Mod w w' No [bx g_q 26 #[.int .i64 (d : Int), .int .i64 (n : Int), .slice B z.length b], rowT B b z, bx g_r 26 #[(.int .i64 0), (.int .i64 0), (.slice none 0 0)], bx g_x 26 #[.int .i64 (d : Int), .int .i64 (n : Int), .slice A l.length c]])) (fun v _ => l.length - (intOf v).toNat)
  case atStart => exact ⟨0, B, b, [], by omega, rfl, ⟨isTs_iff.2 ⟨fun _ h => (by cases h), List.Pairwise.nil⟩⟩, ⟨fun w => by rw [revF_zero]; rfl⟩, HS⟩
  case round =>
    clear HS
    obtain ⟨i, B, b, z, hi, rfl, HZ, HC, HS⟩ := hrel
    by_cases hlt : i < l.length
    · obtain ⟨z', hz1, hz2, hz3⟩ := rev_put HX.out hlt HZ.out HC.out
      have htm : isTm d n (l.getD i zT) = true := (isTs_iff.1 HX.out).1 _ (by rw [getD_lt l zT i hlt]; exact List.getElem_mem hlt)
      have HZ2 := Aside0.mk hz2
      have HC2 := Aside0.mk hz3
      have HP := Aside0.mk hz1
      clear hz1 hz2 hz3
      obtain ⟨ad_A, ea_, h0_, h1_, h2_⟩ := tm_at HR.out i (hlt)
      cases ea_
      obtain ⟨t, ht_⟩ : ∃ t_, t_ = l.getD i zT := ⟨_, rfl⟩
      rw [← ht_] at h0_ h1_ h2_
      have Et := Aside0.mk ht_; have H0t := Aside0.mk h0_; have H1t := Aside0.mk h1_; have H2t := Aside0.mk h2_
      clear ht_ h0_ h1_ h2_
      rw [← Et.out] at htm HP
      obtain ⟨k1, k2, k3, k4⟩ := isTm_fr htm
      have HSM := Aside0.mk (fr_small k1)
      have HSS := Aside0.mk (fr_small (sgn_fr (b := false) (s := t.1) k1))
      have hs5 : t.1.size ≤ 5 := by omega
      have HRS := Aside0.mk (show (rev t.1).size ≤ 1048576 by rw [rev_size]; omega)
      have HPC := Aside0.mk (fun (x y : Int) (e : sgn false t.1 t.2 = (x, y)) W q1 q2 => (by have := specPut B b z (rev t.1) x y W q1 q2 (isTs_bnd hd hn HZ.out) (isTs_small HZ.out) HRS.out (e ▸ HSS.out); rwa [show put z (rev t.1) (x, y) = some z' from e ▸ HP.out] at this : Calls Try.prog 110 #[.slice B z.length b, .string (rev t.1), .agg #[.int .i64 x, .int .i64 y]] W fun e w' => ∃ C c, e = .returned (.tuple #[.slice C (resP (some z')).1.length c, .bool (resP (some z')).2]) ∧ Sep W w' [rowT C c (resP (some z')).1]))
      clear htm k1 k2 k3 k4
      have f1_ := HS.out.c 3 2 (v := .slice (some ad_A) l.length c) rfl rfl
      have f2_ := HS.out.old H1t.out
      have f3_ := c2 (HS.out.old H2t.out)
      go_wp2_with (first | ((with_reducible refine gate_dst (N := 7) rfl ?_); refine bxL 34 #[(.int .i64 0), (.int .i64 0)] HS ?_; clear HS f1_ f2_ f3_; intro g_y w1 hg_y HS) | ((with_reducible refine gate_store (t := 34) (p := 7) rfl ?_); refine stL HS 0 0 #[.int .i64 t.2.1, .int .i64 t.2.2] rfl rfl rfl rfl rfl ?_; clear HS; intro w1 HS))
      replace HS := sD HS
      refine ps (.p 0 (.p 2 (.p 4 (.t 1 (.t 3 (.p 5 (.p 6 (.t 7 (.t 9 (.e 8 (.d 10 (.p 11 (.p 12 (.p 13 (.p 14 (.p 15 .done)))))))))))))))) (fun w' => w'.cell? ⟨g_q, 2, none⟩ = some (.slice B z.length b) ∧ w'.cell? ⟨g_x, 2, none⟩ = some (.slice (some ad_A) l.length c) ∧ w'.cell? (ad_A.add (i * 3)) = some (.string t.1) ∧ w'.cell? ⟨g_y, 0, none⟩ = some (.int .i64 t.2.1) ∧ w'.cell? ⟨g_y, 1, none⟩ = some (.int .i64 t.2.2)) [10] ⟨HS.out.c 1 2 (v := .slice B z.length b) rfl rfl, HS.out.c 4 2 (v := .slice (some ad_A) l.length c) rfl rfl, HS.out.old H0t.out, HS.out.c 0 0 (v := .int .i64 t.2.1) rfl rfl, HS.out.c 0 1 (v := .int .i64 t.2.2) rfl rfl⟩ (fun hHeld => ?_)
      repeat (first | ((with_reducible refine gate_p ?_); refine rp rfl rfl ?_) | ((with_reducible refine gate_t ?_); refine rt rfl rfl hHeld ?_))
      refine run_e rfl (fun K hK => ?_)
      refine gc Try.func111 (specTurned t.1 (by omega) _) rfl rfl ?_
      rintro e_ w1 ⟨rfl, hb⟩
      refine ⟨_, rfl, ?_⟩
      replace HS := sB HS hb
      clear hb
      refine ge hK ⟨HS.out.c 1 2 (v := .slice B z.length b) rfl rfl, HS.out.c 4 2 (v := .slice (some ad_A) l.length c) rfl rfl, HS.out.old H0t.out, HS.out.c 0 0 (v := .int .i64 t.2.1) rfl rfl, HS.out.c 0 1 (v := .int .i64 t.2.2) rfl rfl⟩ (fun hHeld => ?_)
      clear hK K
      refine run_d rfl (fun K hK => ?_)
      refine gc Try.func110 (HPC.out (t.2.1) (t.2.2) rfl _ (HS.out.reads 2 rfl) (HS.out.cap 2 rfl)) rfl rfl ?_
      rintro e_ w1 ⟨B2, b2, rfl, hs⟩
      refine ⟨_, rfl, ?_⟩
      replace HS := sN1 HS hs
      clear hs
      refine gd hK ?_
      clear hK K
      repeat (first | ((with_reducible refine gate_p ?_); refine rp rfl rfl ?_) | ((with_reducible refine gate_t ?_); refine rt rfl rfl hHeld ?_))
      refine run_done ?_
      clear hHeld
      go_wp2_with (first | ((with_reducible refine gate_store (t := 24) (p := 56) rfl ?_); refine stL HS 2 2 #[.int .i64 (d : Int), .int .i64 (n : Int), (.slice B2 z'.length b2)] rfl rfl rfl rfl rfl ?_; clear HS; intro w1 HS))
      go_roundw
      case rel => exact ⟨i + 1, B2, b2, z', by omega, by go_num, HZ2, HC2, sX HS [2, 0, 4, 5]⟩
      case measure => simp [intOf]; omega
    · obtain rfl : i = l.length := by omega
      have f1_ := HS.out.c 3 2 (v := .slice A l.length c) rfl rfl
      have f2_ := HS.out.c 0 0 (v := .int .i64 (d : Int)) rfl rfl
      have f3_ := HS.out.c 0 1 (v := .int .i64 (n : Int)) rfl rfl
      have f4_ := HS.out.c 0 2 (v := .slice B z.length b) rfl rfl
      go_wp2_with (first | ((with_reducible refine gate_store (t := 26) (p := 4) rfl ?_); refine stL HS 2 0 #[.int .i64 (d : Int), .int .i64 (n : Int), .slice B z.length b] rfl rfl rfl rfl rfl ?_; clear HS f1_ f2_ f3_ f4_; intro w1 HS))
      refine bodyPost_ret (results_cell_row rfl _ _ g_r 26 #[.int .i64 (d : Int), .int .i64 (n : Int), .slice B z.length b] (0, 0) _ rfl (HS.out.at (i := 2) rfl) Try.underlying26 rfl (by kernel_rfl)) rfl ?_
      obtain rfl := HE.out z HZ.out HC.out
      exact ⟨B, b, rfl, HS.out.sel [1] (by decide)⟩
set_option maxHeartbeats 8000000 in
theorem specReversalOf (d n : Int) (A : Option Addr) (c : Nat) (l : Ts) (w : World) (hr : KT.C w A l.length l) (hc : l.length ≤ c) (hb : bnd l = true) :
    Calls Try.prog 9 #[.agg #[.int .i64 d, .int .i64 n, .slice A l.length c]] w (RetS w (revR false d n l)) := by
  have HR := Aside0.mk hr
  have HB := Aside0.mk hb
  have HS := Aside0.mk (Sep.refl w)
  clear hr hb
  unfold revR
  cases h : isS d n l with
  | false =>
    go_enter Try.func9, Try.ntmps9
    go_wp2_with (first | ((with_reducible refine gate_dst (N := 1) rfl ?_); refine bxL 26 #[.int .i64 d, .int .i64 n, .slice A l.length c] HS ?_; clear HS; intro g_p w1 hg_p HS) | ((with_reducible refine gate_dst (N := 2) rfl ?_); refine bxL 26 #[(.int .i64 0), (.int .i64 0), (.slice none 0 0)] HS ?_; clear HS; intro g_r w1 hg_r HS; have f1_ := HS.out.c 1 0 (v := .int .i64 d) rfl rfl; have f2_ := HS.out.c 1 1 (v := .int .i64 n) rfl rfl; have f3_ := HS.out.c 1 2 (v := .slice A l.length c) rfl rfl) | (go_at_call 54; refine (specIs d n A c l _ (HS.out.oldC HR.out) hc HB.out).mono ?_; rintro e_ w1 ⟨rfl, hb⟩; replace HS := sB HS hb; clear hb f1_ f2_ f3_) | ((with_reducible refine gate_store (t := 26) (p := 2) rfl ?_); refine stL HS 0 0 #[(.int .i64 0), (.int .i64 0), (.slice none 0 0)] rfl rfl rfl rfl rfl ?_; clear HS; intro w1 HS))
    refine bodyPost_ret (results_cell_tmp_row rfl _ _ g_r 26 #[(.int .i64 0), (.int .i64 0), (.slice none 0 0)] (0, 0) _ rfl (HS.out.at (i := 0) rfl) Try.underlying26 rfl (by kernel_rfl)) rfl ?_
    exact ⟨none, 0, rfl, nilS (HS.out.sel [] (by decide))⟩
  | true =>
    have HX := Aside0.mk (isS_t h)
    obtain ⟨d, n, rfl, rfl, hd1, hd3, hn1, hn5⟩ := lev_nat (isS_l h)
    rw [Int.toNat_natCast, Int.toNat_natCast] at HX
    go_enter Try.func9, Try.ntmps9
    go_wp2_with (first | ((with_reducible refine gate_dst (N := 1) rfl ?_); refine bxL 26 #[.int .i64 (d : Int), .int .i64 (n : Int), .slice A l.length c] HS ?_; clear HS; intro g_p w1 hg_p HS) | ((with_reducible refine gate_dst (N := 2) rfl ?_); refine bxL 26 #[(.int .i64 0), (.int .i64 0), (.slice none 0 0)] HS ?_; clear HS; intro g_r w1 hg_r HS; have f1_ := HS.out.c 1 0 (v := .int .i64 (d : Int)) rfl rfl; have f2_ := HS.out.c 1 1 (v := .int .i64 (n : Int)) rfl rfl; have f3_ := HS.out.c 1 2 (v := .slice A l.length c) rfl rfl) | (go_at_call 54; refine (specIs d n A c l _ (HS.out.oldC HR.out) hc HB.out).mono ?_; rintro e_ w1 ⟨rfl, hb⟩; replace HS := sB HS hb; clear hb f1_ f2_ f3_; have f1_ := HS.out.c 1 0 (v := .int .i64 (d : Int)) rfl rfl; have f2_ := HS.out.c 1 1 (v := .int .i64 (n : Int)) rfl rfl; have f3_ := HS.out.c 1 2 (v := .slice A l.length c) rfl rfl) | (go_at_call 55; refine (specReversal_false d n hd3 hn5 A c l _ (HS.out.oldC HR.out) HX.out).mono ?_; rintro e_ w1 ⟨B, b, rfl, hs⟩; replace HS := sN1 HS hs; clear hs f1_ f2_ f3_) | ((with_reducible refine gate_store (t := 26) (p := 2) rfl ?_); refine stL HS 1 0 #[.int .i64 (d : Int), .int .i64 (n : Int), .slice B (tabT d n (revF false l)).length b] rfl rfl rfl rfl rfl ?_; clear HS; intro w1 HS))
    refine bodyPost_ret (results_cell_tmp_row rfl _ _ g_r 26 #[.int .i64 (d : Int), .int .i64 (n : Int), .slice B (tabT d n (revF false l)).length b] (0, 0) _ rfl (HS.out.at (i := 1) rfl) Try.underlying26 rfl (by kernel_rfl)) rfl ?_
    exact ⟨B, b, rfl, HS.out.sel [0] (by decide)⟩
set_option maxHeartbeats 8000000 in
theorem implReversalOf (d n : Int) (A : Option Addr) (c : Nat) (l : Ts) (w : World) (hr : KT.C w A l.length l) (hc : l.length ≤ c) (hb : bnd l = true) :
    Calls Try.prog 8 #[.agg #[.int .i64 d, .int .i64 n, .slice A l.length c]] w (RetS w (revR false d n l)) := by
  have HR := Aside0.mk hr
  have HB := Aside0.mk hb
  have HS := Aside0.mk (Sep.refl w)
  clear hr hb
  unfold revR
  cases h : isS d n l with
  | false =>
    go_enter Try.func8, Try.ntmps8
    go_wp2_with (first | ((with_reducible refine gate_dst (N := 1) rfl ?_); refine bxL 26 #[.int .i64 d, .int .i64 n, .slice A l.length c] HS ?_; clear HS; intro g_p w1 hg_p HS) | ((with_reducible refine gate_dst (N := 2) rfl ?_); refine bxL 26 #[(.int .i64 0), (.int .i64 0), (.slice none 0 0)] HS ?_; clear HS; intro g_r w1 hg_r HS; have f1_ := HS.out.c 1 0 (v := .int .i64 d) rfl rfl; have f2_ := HS.out.c 1 1 (v := .int .i64 n) rfl rfl; have f3_ := HS.out.c 1 2 (v := .slice A l.length c) rfl rfl) | (go_at_call 52; refine (implIs d n A c l _ (HS.out.oldC HR.out) hc HB.out).mono ?_; rintro e_ w1 ⟨rfl, hb⟩; replace HS := sB HS hb; clear hb f1_ f2_ f3_) | ((with_reducible refine gate_store (t := 26) (p := 2) rfl ?_); refine stL HS 0 0 #[(.int .i64 0), (.int .i64 0), (.slice none 0 0)] rfl rfl rfl rfl rfl ?_; clear HS; intro w1 HS))
    refine bodyPost_ret (results_cell_tmp_row rfl _ _ g_r 26 #[(.int .i64 0), (.int .i64 0), (.slice none 0 0)] (0, 0) _ rfl (HS.out.at (i := 0) rfl) Try.underlying26 rfl (by kernel_rfl)) rfl ?_
    exact ⟨none, 0, rfl, nilS (HS.out.sel [] (by decide))⟩
  | true =>
    have HX := Aside0.mk (isS_t h)
    have hlev := isS_l h
    obtain ⟨d, n, rfl, rfl, hd1, hd3, hn1, hn5⟩ := lev_nat hlev
    have HL := Aside0.mk hlev
    clear hlev
    rw [Int.toNat_natCast, Int.toNat_natCast] at HX
    go_enter Try.func8, Try.ntmps8
    go_wp2_with (first | ((with_reducible refine gate_dst (N := 1) rfl ?_); refine bxL 26 #[.int .i64 (d : Int), .int .i64 (n : Int), .slice A l.length c] HS ?_; clear HS; intro g_p w1 hg_p HS) | ((with_reducible refine gate_dst (N := 2) rfl ?_); refine bxL 26 #[(.int .i64 0), (.int .i64 0), (.slice none 0 0)] HS ?_; clear HS; intro g_r w1 hg_r HS; have f1_ := HS.out.c 1 0 (v := .int .i64 (d : Int)) rfl rfl; have f2_ := HS.out.c 1 1 (v := .int .i64 (n : Int)) rfl rfl; have f3_ := HS.out.c 1 2 (v := .slice A l.length c) rfl rfl) | (go_at_call 52; refine (implIs d n A c l _ (HS.out.oldC HR.out) hc HB.out).mono ?_; rintro e_ w1 ⟨rfl, hb⟩; replace HS := sB HS hb; clear hb f1_ f2_ f3_; have f1_ := HS.out.c 1 0 (v := .int .i64 (d : Int)) rfl rfl; have f2_ := HS.out.c 1 1 (v := .int .i64 (n : Int)) rfl rfl; have f3_ := HS.out.c 1 2 (v := .slice A l.length c) rfl rfl) | (go_at_call 53; refine (implReversal_false d n A c l _ HL.out (HS.out.oldC HR.out) HX.out).mono ?_; rintro e_ w1 ⟨B, b, rfl, hs⟩; replace HS := sN1 HS hs; clear hs f1_ f2_ f3_) | ((with_reducible refine gate_store (t := 26) (p := 2) rfl ?_); refine stL HS 1 0 #[.int .i64 (d : Int), .int .i64 (n : Int), .slice B (tabT d n (revF false l)).length b] rfl rfl rfl rfl rfl ?_; clear HS; intro w1 HS))
    refine bodyPost_ret (results_cell_tmp_row rfl _ _ g_r 26 #[.int .i64 (d : Int), .int .i64 (n : Int), .slice B (tabT d n (revF false l)).length b] (0, 0) _ rfl (HS.out.at (i := 1) rfl) Try.underlying26 rfl (by kernel_rfl)) rfl ?_
    exact ⟨B, b, rfl, HS.out.sel [0] (by decide)⟩
set_option maxHeartbeats 8000000 in
theorem specAntipodeOf (d n : Int) (A : Option Addr) (c : Nat) (l : Ts) (w : World) (hr : KT.C w A l.length l) (hc : l.length ≤ c) (hb : bnd l = true) :
    Calls Try.prog 12 #[.agg #[.int .i64 d, .int .i64 n, .slice A l.length c]] w (RetS w (revR true d n l)) := by
  have HR := Aside0.mk hr
  have HB := Aside0.mk hb
  have HS := Aside0.mk (Sep.refl w)
  clear hr hb
  unfold revR
  cases h : isS d n l with
  | false =>
    go_enter Try.func12, Try.ntmps12
    go_wp2_with (first | ((with_reducible refine gate_dst (N := 1) rfl ?_); refine bxL 26 #[.int .i64 d, .int .i64 n, .slice A l.length c] HS ?_; clear HS; intro g_p w1 hg_p HS) | ((with_reducible refine gate_dst (N := 2) rfl ?_); refine bxL 26 #[(.int .i64 0), (.int .i64 0), (.slice none 0 0)] HS ?_; clear HS; intro g_r w1 hg_r HS; have f1_ := HS.out.c 1 0 (v := .int .i64 d) rfl rfl; have f2_ := HS.out.c 1 1 (v := .int .i64 n) rfl rfl; have f3_ := HS.out.c 1 2 (v := .slice A l.length c) rfl rfl) | (go_at_call 54; refine (specIs d n A c l _ (HS.out.oldC HR.out) hc HB.out).mono ?_; rintro e_ w1 ⟨rfl, hb⟩; replace HS := sB HS hb; clear hb f1_ f2_ f3_) | ((with_reducible refine gate_store (t := 26) (p := 2) rfl ?_); refine stL HS 0 0 #[(.int .i64 0), (.int .i64 0), (.slice none 0 0)] rfl rfl rfl rfl rfl ?_; clear HS; intro w1 HS))
    refine bodyPost_ret (results_cell_tmp_row rfl _ _ g_r 26 #[(.int .i64 0), (.int .i64 0), (.slice none 0 0)] (0, 0) _ rfl (HS.out.at (i := 0) rfl) Try.underlying26 rfl (by kernel_rfl)) rfl ?_
    exact ⟨none, 0, rfl, nilS (HS.out.sel [] (by decide))⟩
  | true =>
    have HX := Aside0.mk (isS_t h)
    obtain ⟨d, n, rfl, rfl, hd1, hd3, hn1, hn5⟩ := lev_nat (isS_l h)
    rw [Int.toNat_natCast, Int.toNat_natCast] at HX
    go_enter Try.func12, Try.ntmps12
    go_wp2_with (first | ((with_reducible refine gate_dst (N := 1) rfl ?_); refine bxL 26 #[.int .i64 (d : Int), .int .i64 (n : Int), .slice A l.length c] HS ?_; clear HS; intro g_p w1 hg_p HS) | ((with_reducible refine gate_dst (N := 2) rfl ?_); refine bxL 26 #[(.int .i64 0), (.int .i64 0), (.slice none 0 0)] HS ?_; clear HS; intro g_r w1 hg_r HS; have f1_ := HS.out.c 1 0 (v := .int .i64 (d : Int)) rfl rfl; have f2_ := HS.out.c 1 1 (v := .int .i64 (n : Int)) rfl rfl; have f3_ := HS.out.c 1 2 (v := .slice A l.length c) rfl rfl) | (go_at_call 54; refine (specIs d n A c l _ (HS.out.oldC HR.out) hc HB.out).mono ?_; rintro e_ w1 ⟨rfl, hb⟩; replace HS := sB HS hb; clear hb f1_ f2_ f3_; have f1_ := HS.out.c 1 0 (v := .int .i64 (d : Int)) rfl rfl; have f2_ := HS.out.c 1 1 (v := .int .i64 (n : Int)) rfl rfl; have f3_ := HS.out.c 1 2 (v := .slice A l.length c) rfl rfl) | (go_at_call 55; refine (specReversal_true d n hd3 hn5 A c l _ (HS.out.oldC HR.out) HX.out).mono ?_; rintro e_ w1 ⟨B, b, rfl, hs⟩; replace HS := sN1 HS hs; clear hs f1_ f2_ f3_) | ((with_reducible refine gate_store (t := 26) (p := 2) rfl ?_); refine stL HS 1 0 #[.int .i64 (d : Int), .int .i64 (n : Int), .slice B (tabT d n (revF true l)).length b] rfl rfl rfl rfl rfl ?_; clear HS; intro w1 HS))
    refine bodyPost_ret (results_cell_tmp_row rfl _ _ g_r 26 #[.int .i64 (d : Int), .int .i64 (n : Int), .slice B (tabT d n (revF true l)).length b] (0, 0) _ rfl (HS.out.at (i := 1) rfl) Try.underlying26 rfl (by kernel_rfl)) rfl ?_
    exact ⟨B, b, rfl, HS.out.sel [0] (by decide)⟩
set_option maxHeartbeats 8000000 in
theorem implAntipodeOf (d n : Int) (A : Option Addr) (c : Nat) (l : Ts) (w : World) (hr : KT.C w A l.length l) (hc : l.length ≤ c) (hb : bnd l = true) :
    Calls Try.prog 11 #[.agg #[.int .i64 d, .int .i64 n, .slice A l.length c]] w (RetS w (revR true d n l)) := by
  have HR := Aside0.mk hr
  have HB := Aside0.mk hb
  have HS := Aside0.mk (Sep.refl w)
  clear hr hb
  unfold revR
  cases h : isS d n l with
  | false =>
    go_enter Try.func11, Try.ntmps11
    go_wp2_with (first | ((with_reducible refine gate_dst (N := 1) rfl ?_); refine bxL 26 #[.int .i64 d, .int .i64 n, .slice A l.length c] HS ?_; clear HS; intro g_p w1 hg_p HS) | ((with_reducible refine gate_dst (N := 2) rfl ?_); refine bxL 26 #[(.int .i64 0), (.int .i64 0), (.slice none 0 0)] HS ?_; clear HS; intro g_r w1 hg_r HS; have f1_ := HS.out.c 1 0 (v := .int .i64 d) rfl rfl; have f2_ := HS.out.c 1 1 (v := .int .i64 n) rfl rfl; have f3_ := HS.out.c 1 2 (v := .slice A l.length c) rfl rfl) | (go_at_call 52; refine (implIs d n A c l _ (HS.out.oldC HR.out) hc HB.out).mono ?_; rintro e_ w1 ⟨rfl, hb⟩; replace HS := sB HS hb; clear hb f1_ f2_ f3_) | ((with_reducible refine gate_store (t := 26) (p := 2) rfl ?_); refine stL HS 0 0 #[(.int .i64 0), (.int .i64 0), (.slice none 0 0)] rfl rfl rfl rfl rfl ?_; clear HS; intro w1 HS))
    refine bodyPost_ret (results_cell_tmp_row rfl _ _ g_r 26 #[(.int .i64 0), (.int .i64 0), (.slice none 0 0)] (0, 0) _ rfl (HS.out.at (i := 0) rfl) Try.underlying26 rfl (by kernel_rfl)) rfl ?_
    exact ⟨none, 0, rfl, nilS (HS.out.sel [] (by decide))⟩
  | true =>
    have HX := Aside0.mk (isS_t h)
    have hlev := isS_l h
    obtain ⟨d, n, rfl, rfl, hd1, hd3, hn1, hn5⟩ := lev_nat hlev
    have HL := Aside0.mk hlev
    clear hlev
    rw [Int.toNat_natCast, Int.toNat_natCast] at HX
    go_enter Try.func11, Try.ntmps11
    go_wp2_with (first | ((with_reducible refine gate_dst (N := 1) rfl ?_); refine bxL 26 #[.int .i64 (d : Int), .int .i64 (n : Int), .slice A l.length c] HS ?_; clear HS; intro g_p w1 hg_p HS) | ((with_reducible refine gate_dst (N := 2) rfl ?_); refine bxL 26 #[(.int .i64 0), (.int .i64 0), (.slice none 0 0)] HS ?_; clear HS; intro g_r w1 hg_r HS; have f1_ := HS.out.c 1 0 (v := .int .i64 (d : Int)) rfl rfl; have f2_ := HS.out.c 1 1 (v := .int .i64 (n : Int)) rfl rfl; have f3_ := HS.out.c 1 2 (v := .slice A l.length c) rfl rfl) | (go_at_call 52; refine (implIs d n A c l _ (HS.out.oldC HR.out) hc HB.out).mono ?_; rintro e_ w1 ⟨rfl, hb⟩; replace HS := sB HS hb; clear hb f1_ f2_ f3_; have f1_ := HS.out.c 1 0 (v := .int .i64 (d : Int)) rfl rfl; have f2_ := HS.out.c 1 1 (v := .int .i64 (n : Int)) rfl rfl; have f3_ := HS.out.c 1 2 (v := .slice A l.length c) rfl rfl) | (go_at_call 53; refine (implReversal_true d n A c l _ HL.out (HS.out.oldC HR.out) HX.out).mono ?_; rintro e_ w1 ⟨B, b, rfl, hs⟩; replace HS := sN1 HS hs; clear hs f1_ f2_ f3_) | ((with_reducible refine gate_store (t := 26) (p := 2) rfl ?_); refine stL HS 1 0 #[.int .i64 (d : Int), .int .i64 (n : Int), .slice B (tabT d n (revF true l)).length b] rfl rfl rfl rfl rfl ?_; clear HS; intro w1 HS))
    refine bodyPost_ret (results_cell_tmp_row rfl _ _ g_r 26 #[.int .i64 (d : Int), .int .i64 (n : Int), .slice B (tabT d n (revF true l)).length b] (0, 0) _ rfl (HS.out.at (i := 1) rfl) Try.underlying26 rfl (by kernel_rfl)) rfl ?_
    exact ⟨B, b, rfl, HS.out.sel [0] (by decide)⟩
end Go.Proofs.Ytibjkjhpfmmjoaa.H


namespace Go.Proofs.Ytibjkjhpfmmjoaa.H
open Go.RowKit Go.Proofs.YtibjkjhpfmmjoaaW.PrintWords Go.Proofs.YtibjkjhpfmmjoaaW.PrintLast Go.Proofs.YtibjkjhpfmmjoaaW.PrintMore Go.Proofs.Ytibjkjhpfmmjoaa.M
attribute [local go_sem] max2_int min2_int max_two min_two max_three min_three max_four min_four
set_option linter.unusedVariables false
set_option linter.unusedSimpArgs false
theorem reps_one_string (W : World) (base : Nat) (ok : Nat → Prop) (s : ByteArray) : Reps (Kd.string.M W base ok) Kd.string.sz [s] [.string s] := reps_str s W base ok
theorem letter_str (q : Nat) (h : q < 3) : strOfNums [48 + (q : Int)] = letter q := by rw [dig_str q (by omega), letter_dig]
set_option maxRecDepth 100000 in
set_option maxHeartbeats 4000000 in
theorem specWords (d n : Nat) (w : World) (hd : d ≤ 3) (hn : n ≤ 8) : Calls Try.prog 118 #[.int .i64 (d : Int), .int .i64 (n : Int)] w fun e w' => ∃ v : Value, e = .returned v ∧ Kd.R Kd.string 9 w' w.heap.size (fun _ => True) v (wordsN d n) ∧ Below w.heap.size w w' := by
  have HB := Aside0.mk (Below.refl w.heap.size w)
  go_enter Try.func118, Try.ntmps118
  go_wp2_with (first | ((with_reducible refine gate_dst (N := 9) rfl ?_); refine Kd.R_lit (Kd.string) _ 9 ?hg (N := 9) ?hd (xs := ([⟨#[]⟩] : List ByteArray)) (inner := [.string ⟨#[]⟩]) (ok := fun _ => True) (okp := fun _ => True) ?hr ?hp (fun _ hk => hk) trivial (Below.refl _ _) (Nat.le_refl _) (by simp) ?_; (case hd => rfl); (case hg => rfl); (case hr => first | (go_simp; done) | (go_simp; rfl)); (case hp => exact reps_one_string _ _ _ _); intro v1 w1 ho hb hg_ hnew_; clear hg_ hnew_; have HO := Aside0.mk (Kd.R_lower ho (below_size (by repeat (first | (with_reducible first | exact HB.out | apply below_alloc | apply pw_below_drewN | apply below_drew1) | exact HB.out)))); clear ho; have hn_ := Aside0.mk (below_step (by repeat (first | (with_reducible first | exact HB.out | apply below_alloc | apply pw_below_drewN | apply below_drew1) | exact HB.out)) hb); clear HB hb; have HB := hn_; clear hn_))
  go_loopw [1, 5] (fun x y w' => ∃ m : Nat, m ≤ n ∧ x = .int .i64 (m : Int) ∧ Aside0 (Kd.R Kd.string 9 w' w.heap.size (fun _ => True) y (wordsN d (n - m))) ∧ Aside0 (Below w.heap.size w w')) (fun x _ _ => (intOf x).toNat)
  case atStart => exact ⟨n, Nat.le_refl _, rfl, ⟨by rw [Nat.sub_self]; exact HO.out⟩, HB⟩
  case round =>
    clear HO HB
    obtain ⟨m, hm, rfl, HO, HB⟩ := hrel
    obtain ⟨wo, rfl⟩ : ∃ wo : World, wo = wr := ⟨_, rfl⟩
    obtain ⟨Ao, co, eo⟩ := Kd.R_slice HO.out
    subst eo
    by_cases hlt : 0 < m
    · obtain ⟨ws, hws⟩ : ∃ ws, ws = wordsN d (n - m) := ⟨_, rfl⟩
      have hwl : ws.length ≤ 6561 := by rw [hws]; exact wordsN_le hd (by omega)
      rw [← hws] at HO
      have HWS := Aside0.mk hws
      rw [← hws]
      clear hws
      go_wp2_with (first | ((with_reducible refine gate_dst (N := 14) rfl ?_); refine Kd.R_lit (Kd.string) _ 9 ?hg (N := 14) ?hd (xs := ([] : List ByteArray)) (inner := []) (ok := fun _ => True) (okp := fun _ => True) ?hr ?hp (fun _ hk => hk) trivial (Below.refl _ _) (Nat.le_refl _) (by simp) ?_; (case hd => rfl); (case hg => rfl); (case hr => first | (go_simp; done) | (go_simp; rfl)); (case hp => exact Reps.none _ _); intro v1 w1 ho hb hg_ hnew_; clear hg_ hnew_; have n1_ := Aside0.mk (Kd.R_mono (Kd.R_elder (by (with_reducible repeat (first | apply Kd.R_alloc | apply Kd.R_drewN | apply Kd.R_drew | apply Kd.C_alloc | apply Kd.C_drewN | apply Kd.C_drew)); exact HO.out) ho hb) (fun _ hk => hk.2)); have n2_ := Aside0.mk (Kd.R_lower (Kd.R_mono (Kd.R_newR ho (by (with_reducible repeat (first | apply Kd.R_alloc | apply Kd.R_drewN | apply Kd.R_drew | apply Kd.C_alloc | apply Kd.C_drewN | apply Kd.C_drew)); exact HO.out)) (fun _ hk => hk.2)) (below_size (by repeat (first | (with_reducible first | exact HB.out | apply below_alloc | apply pw_below_drewN | apply below_drew1) | exact HB.out)))); clear HO ho; have HO := n1_; have HN := n2_; clear n1_ n2_; have hn_ := Aside0.mk (below_step (by repeat (first | (with_reducible first | exact HB.out | apply below_alloc | apply pw_below_drewN | apply below_drew1) | exact HB.out)) hb); clear HB hb; have HB := hn_; clear hn_))
      go_loopw [6, 7] (fun y i w' => ∃ j : Nat, j ≤ ws.length ∧ i = .int .i64 (j : Int) ∧ Aside0 (Kd.R Kd.string 9 w' w.heap.size (fun k_ => some k_ ≠ (Value.slice Ao ws.length co).ownBlock) y (nextWords d (ws.take j))) ∧ Aside0 (Kd.R Kd.string 9 w' w.heap.size (fun k_ => some k_ ≠ y.ownBlock) (.slice Ao ws.length co) ws) ∧ Aside0 (Below w.heap.size w w')) (fun _ i _ => ws.length - (intOf i).toNat)
      case atStart => exact ⟨0, Nat.zero_le _, rfl, HN, HO, HB⟩
      case round =>
        clear HO HN HB
        obtain ⟨j, hj, rfl, HN, HO, HB⟩ := hrel
        obtain ⟨wi, rfl⟩ : ∃ wi : World, wi = wr := ⟨_, rfl⟩
        by_cases hjl : j < ws.length
        · go_wp2
          obtain ⟨ad, ea, hx⟩ := Kd.at_string (Kd.R_reads' HO.out).2.2 (j : Int) (by omega) (by omega)
          cases ea
          clear hx
          go_loopw [6, 8] (fun y i w' => ∃ q : Nat, q ≤ d ∧ i = .int .i64 (q : Int) ∧ Aside0 (Kd.R Kd.string 9 w' w.heap.size (fun k_ => some k_ ≠ (Value.slice (some ad) ws.length co).ownBlock) y (makingW d ws j q)) ∧ Aside0 (Kd.R Kd.string 9 w' w.heap.size (fun k_ => some k_ ≠ y.ownBlock) (.slice (some ad) ws.length co) ws) ∧ Aside0 (Below w.heap.size w w')) (fun _ i _ => d - (intOf i).toNat)
          case atStart => exact ⟨0, Nat.zero_le _, rfl, ⟨by rw [makingW_zero]; exact HN.out⟩, HO, HB⟩
          case round =>
            clear HO HN HB
            obtain ⟨q, hq, rfl, HN, HO, HB⟩ := hrel
            by_cases hqd : q < d
            · have hlen := Aside0.mk (makingW_le (d := d) hd hwl j q (by omega))
              obtain ⟨ad', ea, hx⟩ := Kd.at_string (Kd.R_reads' HO.out).2.2 (j : Int) (by omega) (by omega)
              cases ea
              obtain ⟨s, hs⟩ : ∃ s, s = rdOf ByteArray.empty ws (j : Int) := ⟨_, rfl⟩
              rw [← hs] at hx
              have HS := Aside0.mk (show ws.getD j ByteArray.empty = s from hs.symm)
              have hss : s.size ≤ 8 := by rw [hs, wordsN_size (n := n - m) (d := d) (by rw [← HWS.out]; exact getD_mem hjl)]; omega
              clear hs
              have hsz : (9223372036854775807 < s.size + (strOfNums [48 + (q : Int)]).size) = False := eq_false (Nat.not_lt.2 (show s.size + 1 ≤ 9223372036854775807 by omega))
              clear hss
              go_wp2
              have hx1 : wr.drew.cell? (ad.add j) = some (.string s) := hx
              have n0_ := Aside0.mk (Kd.R_drew HN.out)
              have n1_ := Aside0.mk (Kd.R_drew HO.out)
              have n2_ := Aside0.mk (below_drew1 HB.out)
              clear HN HO HB hx
              have HN := n0_
              have HO := n1_
              have HB := n2_
              clear n0_ n1_ n2_
              have hw32 : IntKind.i64.wrap (48 + (q : Int)) = 48 + q := IntWalk.i64_in _ (by omega)
              have hw33 : IntKind.u8.wrap (48 + (q : Int)) = 48 + q := u8_small _ (by omega) (by omega)
              refine start_ (n := 14) (S := fun w' => w'.cell? (ad.add j) = some (.string s)) (ds := [11, 12]) #[false, false, false, false, false, false, false, false, false, false, false, false, false, false] (by kernel_rfl) rfl rfl (hx1) (fun hHeld => ?_)
              generalize wr.drew = wd at HN HO HB hHeld hx1 ⊢
              refine pure_ (i := 0) (N := some 26) (v := ?_) (a' := ?_) #[true, false, false, false, false, false, false, false, false, false, false, false, false, false] rfl rfl (by kernel_rfl) (fun _ _ _ h => h) (Or.inl ⟨by rfl, ?_⟩) ?_ ?_
              rotate_left
              · intro w'
                go_simp
                with_reducible rfl
              rotate_left
              · simp only [Act.put, List.setIfInBounds_toArray, List.set_cons_zero, List.set_cons_succ, i64_w, i32_w]
                rfl
              refine pure_ (i := 1) (N := some 27) (v := ?_) (a' := ?_) #[true, true, false, false, false, false, false, false, false, false, false, false, false, false] rfl rfl (by kernel_rfl) (fun _ _ _ h => h) (Or.inl ⟨by rfl, ?_⟩) ?_ ?_
              rotate_left
              · intro w'
                go_simp
                with_reducible rfl
              rotate_left
              · simp only [Act.put, List.setIfInBounds_toArray, List.set_cons_zero, List.set_cons_succ, i64_w, i32_w]
                rfl
              refine pure_ (i := 2) (N := some 28) (v := ?_) (a' := ?_) #[true, true, true, false, false, false, false, false, false, false, false, false, false, false] rfl rfl (by kernel_rfl) (fun _ _ _ h => h) (Or.inl ⟨by rfl, ?_⟩) ?_ ?_
              rotate_left
              · intro w'
                go_simp
                with_reducible rfl
              rotate_left
              · simp only [Act.put, List.setIfInBounds_toArray, List.set_cons_zero, List.set_cons_succ, i64_w, i32_w]
                rfl
              refine pure_ (i := 3) (N := some 29) (v := ?_) (a' := ?_) #[true, true, true, true, false, false, false, false, false, false, false, false, false, false] rfl rfl (by kernel_rfl) (fun _ _ _ h => h) (Or.inl ⟨by rfl, ?_⟩) ?_ ?_
              rotate_left
              · intro w'
                go_simp
                with_reducible rfl
              rotate_left
              · simp only [Act.put, List.setIfInBounds_toArray, List.set_cons_zero, List.set_cons_succ, i64_w, i32_w]
                rfl
              refine pure_ (i := 5) (N := some 31) (v := ?_) (a' := ?_) #[true, true, true, true, false, true, false, false, false, false, false, false, false, false] rfl rfl (by kernel_rfl) (fun _ _ _ h => h) (Or.inl ⟨by rfl, ?_⟩) ?_ ?_
              rotate_left
              · intro w'
                go_simp
                with_reducible rfl
              rotate_left
              · simp only [Act.put, List.setIfInBounds_toArray, List.set_cons_zero, List.set_cons_succ, i64_w, i32_w]
                rfl
              refine pure_ (i := 6) (N := some 32) (v := ?_) (a' := ?_) #[true, true, true, true, false, true, true, false, false, false, false, false, false, false] rfl rfl (by kernel_rfl) (fun _ _ _ h => h) (Or.inl ⟨by rfl, ?_⟩) ?_ ?_
              rotate_left
              · intro w'
                go_simp
                with_reducible rfl
              rotate_left
              · simp only [Act.put, List.setIfInBounds_toArray, List.set_cons_zero, List.set_cons_succ, i64_w, i32_w]
                rfl
              refine pure_ (i := 7) (N := some 33) (v := ?_) (a' := ?_) #[true, true, true, true, false, true, true, true, false, false, false, false, false, false] rfl rfl (by kernel_rfl) (fun _ _ _ h => h) (Or.inl ⟨by rfl, ?_⟩) ?_ ?_
              rotate_left
              · intro w'
                go_simp
                with_reducible rfl
              rotate_left
              · simp only [Act.put, List.setIfInBounds_toArray, List.set_cons_zero, List.set_cons_succ, i64_w, i32_w]
                rfl
              refine take_ (i := 4) (N := some 30) (v := ?_) (a' := ?_) #[true, true, true, true, true, true, true, true, false, false, false, false, false, false] rfl rfl (by kernel_rfl) (fun _ _ _ h => h) (Or.inl ⟨by rfl, ?_⟩) hHeld ?_ ?_
              rotate_left
              · intro w' s0
                go_simp
                with_reducible rfl
              rotate_left
              · simp only [Act.put, List.setIfInBounds_toArray, List.set_cons_zero, List.set_cons_succ, i64_w, i32_w]
                rfl
              refine one_ (i := 8) (N := some 34) #[true, true, true, true, true, true, true, true, true, false, false, false, false, false] rfl rfl (by kernel_rfl) (by decide) (fun K hK => ?_)
              refine value_ (w1 := ?_) (v := ?_) (by rfl) rfl ?_ ?_
              rotate_left 2
              · go_simp
                constructor
                · rfl
                · rfl
              refine hK.out _ _ ((World.cell?_alloc_lt _ _ _ (World.block_lt_of_cell? _ _ hHeld)).trans hHeld) (fun hHeld => ?_)
              clear hK K
              refine norm_ (a' := ?_) ?_ ?_
              rotate_left
              · show Act.put _ (some 34) _ = _
                simp only [Act.put, List.setIfInBounds_toArray, List.set_cons_zero, List.set_cons_succ, i64_w, i32_w]
                rfl
              refine one_ (i := 9) (N := some 35) #[true, true, true, true, true, true, true, true, true, true, false, false, false, false] rfl rfl (by kernel_rfl) (by decide) (fun K hK => ?_)
              have hcv := byte_string wd (48 + (q : Int))
              refine value_ (w1 := ?_) (v := ?_) (by rfl) rfl ?_ ?_
              rotate_left 2
              · go_simp
                constructor
                · rfl
                · rfl
              refine hK.out _ _ (hHeld) (fun hHeld => ?_)
              clear hK K
              refine norm_ (a' := ?_) ?_ ?_
              rotate_left
              · show Act.put _ (some 35) _ = _
                simp only [Act.put, List.setIfInBounds_toArray, List.set_cons_zero, List.set_cons_succ, i64_w, i32_w]
                rfl
              refine pure_ (i := 10) (N := some 36) (v := ?_) (a' := ?_) #[true, true, true, true, true, true, true, true, true, true, true, false, false, false] rfl rfl (by kernel_rfl) (fun _ _ _ h => h) (Or.inl ⟨by rfl, ?_⟩) ?_ ?_
              rotate_left
              · intro w'
                go_simp
                with_reducible rfl
              rotate_left
              · simp only [Act.put, List.setIfInBounds_toArray, List.set_cons_zero, List.set_cons_succ, i64_w, i32_w]
                rfl
              refine last_ (i := 11) (N := some 37) #[true, true, true, true, true, true, true, true, true, true, true, true, false, false] rfl rfl (by kernel_rfl) (by decide) (fun K hK => ?_)
              refine value_ (w1 := ?_) (v := ?_) (by rfl) rfl ?_ ?_
              rotate_left 2
              · go_simp
                constructor
                · rfl
                · rfl
              refine hK.out _ _ ?_
              clear hK K
              refine norm_ (a' := ?_) ?_ ?_
              rotate_left
              · show Act.put _ (some 37) _ = _
                simp only [Act.put, List.setIfInBounds_toArray, List.set_cons_zero, List.set_cons_succ, i64_w, i32_w]
                rfl
              refine last_ (i := 12) (N := some 38) #[true, true, true, true, true, true, true, true, true, true, true, true, true, false] rfl rfl (by kernel_rfl) (by decide) (fun K hK => ?_)
              refine Kd.R_append_step (Kd.string) (w0 := w) w.heap.size (by rfl) (.tmp 26) (.tmp 37) 85 9 (.string ⟨#[]⟩) 16 rfl Try.underlying85 infoString rfl (by decide) (by omega) (u6) (makingW d ws j q) (s ++ strOfNums [48 + (q : Int)]) ([.string (s ++ strOfNums [48 + (q : Int)])]) (fun k_ => some k_ ≠ (Value.slice (some ad) ws.length co).ownBlock) (fun _ => False) rfl (by first | rfl | (show Value.slice (some ⟨_, 0, none⟩) 1 1 = _; simp)) ?aP (fun _ hk => hk.elim) ?aF ?aO ?aB ?aS ?aL ?_
              case aP => exact rfl
              case aF => exact fun k_ hk => Kd.fresh_ok (by (with_reducible repeat (first | apply Kd.R_alloc | apply Kd.R_drewN | apply Kd.R_drew | apply Kd.C_alloc | apply Kd.C_drewN | apply Kd.C_drew)); exact HO.out) k_ hk
              case aO => (with_reducible repeat (first | apply Kd.R_alloc | apply Kd.R_drewN | apply Kd.R_drew | apply Kd.C_alloc | apply Kd.C_drewN | apply Kd.C_drew)); exact HN.out
              case aB => repeat (first | (with_reducible first | exact HB.out | apply below_alloc | apply pw_below_drewN | apply below_drew1) | exact HB.out)
              case aS => exact below_size (by repeat (first | (with_reducible first | exact HB.out | apply below_alloc | apply pw_below_drewN | apply below_drew1) | exact HB.out))
              case aL => have := hlen.out; omega
              intro v1 w1 ho hb hg hat
              have n0_ := Aside0.mk (Kd.R_mono (Kd.R_after (ok := fun _ => True) (by (with_reducible repeat (first | apply Kd.R_alloc | apply Kd.R_drewN | apply Kd.R_drew | apply Kd.C_alloc | apply Kd.C_drewN | apply Kd.C_drew)); exact Kd.R_mono HO.out (fun _ hk => ⟨trivial, hk⟩)) hg hat) (fun _ hk => hk.2))
              have n1_ := Aside0.mk hb
              have n2_ := Aside0.mk ho
              clear HO HN HB ho hb hg hat
              have HO := n0_
              have HB := n1_
              have HN := n2_
              clear n0_ n1_ n2_
              refine hK.out _ _ ?_
              clear hK K
              refine norm_ (a' := ?_) ?_ ?_
              rotate_left
              · show Act.put _ (some 38) _ = _
                simp only [Act.put, List.setIfInBounds_toArray, List.set_cons_zero, List.set_cons_succ, i64_w, i32_w]
                rfl
              refine pure_ (i := 13) (N := some 6) (v := ?_) (a' := ?_) #[true, true, true, true, true, true, true, true, true, true, true, true, true, true] rfl rfl (by kernel_rfl) (fun _ _ _ h => h) (Or.inl ⟨by rfl, ?_⟩) ?_ ?_
              rotate_left
              · intro w'
                go_simp
                with_reducible rfl
              rotate_left
              · simp only [Act.put, List.setIfInBounds_toArray, List.set_cons_zero, List.set_cons_succ, i64_w, i32_w]
                rfl
              refine done_ (by kernel_rfl) ?_
              go_wp2
              go_roundw
              case rel => exact ⟨q + 1, by omega, by go_num, ⟨by rw [makingW_next, HS.out, ← letter_str q (by omega)]; exact HN.out⟩, HO, HB⟩
              case measure => simp [intOf]; omega
            · obtain rfl : q = d := by omega
              go_wp2
              go_roundw
              case rel => exact ⟨j + 1, by omega, by go_num, ⟨by rw [← makingW_end _ _ _ hjl]; exact HN.out⟩, HO, HB⟩
              case measure => simp [intOf]; omega
        · obtain rfl : j = ws.length := by omega
          go_wp2
          go_roundw
          case rel => exact ⟨m - 1, by omega, by first | go_num | (congr 1; omega), ⟨by rw [show n - (m - 1) = n - m + 1 by omega, wordsN, ← HWS.out]; rw [List.take_length] at HN; exact Kd.R_mono HN.out (fun _ _ => trivial)⟩, HB⟩
          case measure => simp [intOf]; omega
    · obtain rfl : m = 0 := by omega
      go_wp2
      go_ret
      exact ⟨_, rfl, HO.out, HB.out⟩
/-- The same, as a row of one's own. -/
theorem specWordsS (d n : Nat) (w : World) (hd : d ≤ 3) (hn : n ≤ 8) : Calls Try.prog 118 #[.int .i64 (d : Int), .int .i64 (n : Int)] w fun e w' => ∃ A c, e = .returned (.slice A (wordsN d n).length c) ∧ Sep w w' [rowS A c (wordsN d n)] :=
  (specWords d n w hd hn).mono fun e w' h => by
    obtain ⟨v, he, hR, hb⟩ := h
    obtain ⟨A, c, rfl⟩ := Kd.R_slice hR
    exact ⟨A, c, he, Sep.one hb (Kd.R_lower hR (Nat.zero_le _)) fun k hk => Kd.R_base hR k hk⟩
end Go.Proofs.Ytibjkjhpfmmjoaa.H


