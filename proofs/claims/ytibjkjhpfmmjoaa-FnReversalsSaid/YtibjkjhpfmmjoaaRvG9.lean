/- Plain facts and contracts of functions that the law's walk uses. Conditions: those that stand in each statement. -/
import Derived.Test.YtibjkjhpfmmjoaaRvG8
import Derived.Test.YtibjkjhpfmmjoaaRvG4
namespace Go.Proofs.Ytibjkjhpfmmjoaa.H
open Go.RowKit Go.Proofs.YtibjkjhpfmmjoaaW.PrintWords Go.Proofs.YtibjkjhpfmmjoaaW.PrintLast Go.Proofs.YtibjkjhpfmmjoaaW.PrintMore Go.Proofs.Ytibjkjhpfmmjoaa.M
attribute [local go_sem] max2_int min2_int max_two min_two max_three min_three max_four min_four
set_option linter.unusedVariables false
set_option linter.unusedSimpArgs false
set_option maxRecDepth 100000
theorem results_cell_cell_row {P : Program} {fn : Func} {p q : Tmp} {ty : TypeId} (h : fn.results = #[.cell p ty, .cell q ty]) (tmps : Array Value) (w : World) (g g2 : Nat) (t t2 : TypeId) (cs cs2 : Array Value) (fr fr2 : Nat × Nat) (d : TypeDesc)
    (hp : tmps.getD p undef = .pointer (some ⟨g, 0, none⟩)) (hg : w.heap[g]? = some (.cells cs t fr))
    (hq : tmps.getD q undef = .pointer (some ⟨g2, 0, none⟩)) (hg2 : w.heap[g2]? = some (.cells cs2 t2 fr2))
    (hu : P.underlying ty = some d) (hd : (match d with | .struct _ | .array _ _ => true | _ => false) = true) (hi : (P.info? ty).map (·.size) = some cs.size) (hi2 : (P.info? ty).map (·.size) = some cs2.size) :
    (results fn tmps).run P w = .ok (.tuple #[.agg cs, .agg cs2]) w := by
  have hp' : tmps[p]?.getD undef = .pointer (some ⟨g, 0, none⟩) := by simpa using hp
  have hq' : tmps[q]?.getD undef = .pointer (some ⟨g2, 0, none⟩) := by simpa using hq
  simp [results, h, hp', hq', asAddr, Sem.run_bind, run_loadVar_row w g t ty cs fr d hg hu hd hi, run_loadVar_row w g2 t2 ty cs2 fr2 d hg2 hu hd hi2]
theorem Bytes.apart {w W : World} {A : Option Addr} {xs : List Int} {L : List As} (h : Bytes w A xs) (HS : Mod w W No L) (i : Nat) {a : As} (hi : L[i]? = some a) : Apart A xs.length a.S := fun ad q hA hn hq => by
  obtain ⟨ad', ea, h3⟩ := ki_at h.r (show xs[0]? = some xs[0] from List.getElem?_eq_getElem hn)
  rw [hA] at ea
  injection ea with ea
  subst ea
  have h4 := World.block_lt_of_cell? w _ h3
  rw [add_blk] at h4
  rintro rfl
  rcases (HS.all a (List.mem_of_getElem? hi)).2 _ hq with h5 | h5
  · exact h5.elim
  · omega
/-- Two series are returned, in rows of their own. -/
def RetTwo (w : World) (e : Ending) (w' : World) : Prop := ∃ (d n : Int) (B : Option Addr) (b : Nat) (l : Ts) (d2 n2 : Int) (B2 : Option Addr) (b2 : Nat) (l2 : Ts), e = .returned (.tuple #[.agg #[.int .i64 d, .int .i64 n, .slice B l.length b], .agg #[.int .i64 d2, .int .i64 n2, .slice B2 l2.length b2]]) ∧ (-1 ≤ d ∧ d ≤ 5 ∧ -1 ≤ n ∧ n ≤ 6) ∧ (-1 ≤ d2 ∧ d2 ≤ 5 ∧ -1 ≤ n2 ∧ n2 ≤ 6) ∧ okT l ∧ okT l2 ∧ Sep w w' [rowT B b l, rowT B2 b2 l2]
set_option maxHeartbeats 16000000 in
theorem specTwo (A : Option Addr) (c : Nat) (xs : List Int) (w : World) (hx : Bytes w A xs) : Calls Try.prog 66 #[.slice A xs.length c] w (RetTwo w) := by
  have HX := Aside0.mk hx
  have hl := hx.l
  have HN := Aside0.mk (fun g k h n W k1 k2 hk h1 => specNext g A c xs.length k h n W k1 k2 hk hl h1)
  have HD := Aside0.mk (fun g k h W k1 k2 hk => specDraw g A c xs.length k h W k1 k2 hk hl)
  have HO := Aside0.mk (fun g k h d n B0 m0 c0 W k1 k2 hk h1 h2 h3 => specDrawOf g A c xs.length k h d n B0 m0 c0 W k1 k2 hk hl h1 h2 h3)
  have HSP := Aside0.mk (fun g k h W k1 k2 hk => specSpoil g A c xs.length k h W k1 k2 hk hl)
  have HB := Aside0.mk (fun g k h d n B b l W k1 k2 k3 k4 k5 hk h1 h2 h3 => specBad g A c xs.length k h d n B b l W k1 k2 k3 k4 k5 hk hl h1 h2 h3)
  have HS := Aside0.mk (Sep.refl w)
  clear hx
  go_enter Try.func66, Try.ntmps66
  go_wp2_with (first | ((with_reducible refine gate_dst (N := 2) rfl ?_); refine bxL 26 #[(.int .i64 0), (.int .i64 0), (.slice none 0 0)] HS ?_; clear HS; intro g_r1 w1 hg_r1 HS) | ((with_reducible refine gate_dst (N := 3) rfl ?_); refine bxL 26 #[(.int .i64 0), (.int .i64 0), (.slice none 0 0)] HS ?_; clear HS; intro g_r2 w1 hg_r2 HS) | (go_at_call 51; refine (specFrom A c xs _ (HS.out.oldC HX.out.r) HX.out.l).mono ?_; rintro e_ w1 ⟨g, h, rfl, hs⟩; replace HS := sN1 HS hs; clear hs) | (go_at_call 101; refine (HD.out g 0 h _ (HS.out.at (i := 0) rfl) (HX.out.code HS.out (i := 0) rfl) (Nat.zero_le _)).mono ?_; rintro e_ w1 ⟨d, n, B, b, l, k1, h1, rfl, hd0, hd1, hn0, hn1, hk1, hok, hs⟩; have n_ := Aside0.mk (Mod.step (A0 := [srcB g A xs.length c 0 h]) (R := [bx g_r2 26 #[(.int .i64 0), (.int .i64 0), (.slice none 0 0)], bx g_r1 26 #[(.int .i64 0), (.int .i64 0), (.slice none 0 0)]]) (HS.out.sel [0, 1, 2] (by decide)) hs (fun k_ hk_ => ⟨_, List.mem_cons_self, hk_⟩)); clear HS hs; have HS := n_; clear n_; simp only [List.cons_append, List.nil_append] at HS) | ((with_reducible refine gate_dst (N := 5) rfl ?_); refine bxL 26 #[(.int .i64 0), (.int .i64 0), (.slice none 0 0)] HS ?_; clear HS; intro g_x w1 hg_x HS) | ((with_reducible refine gate_store (t := 26) (p := 5) rfl ?_); refine stL HS 0 0 #[.int .i64 (d : Int), .int .i64 (n : Int), .slice B l.length b] rfl rfl rfl rfl rfl ?_; clear HS; intro w1 HS) | (go_at_call 57; refine (HN.out g k1 h1 14 _ (HS.out.at (i := 1) rfl) (HX.out.code HS.out (i := 1) rfl) hk1 (by omega)).mono ?_; rintro e_ w1 ⟨u, k2, h2, rfl, hk2, hr1, hr2, hs⟩; replace HS : Aside0 (Mod _ _ _ [_, _, _, _, _]) := sM1 HS 1 [0, 2, 3, 4] rfl hs; clear hs; clear hr1 hr2; refine Hid.out ?_))
  refine Lib.hid ?_
  by_cases h0 : u = 0
  · have hu0 : (u == 0) = true := by rw [h0]; rfl
    clear h0
    have f1_ := HS.out.c 1 0 (v := .int .i64 (d : Int)) rfl rfl
    have f2_ := HS.out.c 1 1 (v := .int .i64 (n : Int)) rfl rfl
    have f3_ := HS.out.c 1 2 (v := .slice B l.length b) rfl rfl
    go_wp2_with (first | (go_at_call 100; refine (HB.out g k2 h2 d n B b l _ (HS.out.at (i := 0) rfl) (HS.out.at (i := 2) rfl) (fun q h1 h2 => HS.out.disj2 (i := 2) (j := 0) rfl rfl (by decide) q h1 h2) (HX.out.apart HS.out 2 rfl) (HX.out.code HS.out (i := 0) rfl) hk2 (by omega) (by omega) hok).mono ?_; rintro e_ w1 ⟨d2, n2, B2, b2, l2, k3, h3, rfl, hd2, hd3, hn2, hn3, hk3, hok2, hs⟩; replace HS : Aside0 (Mod _ _ _ [_, _, _, _, _]) := sM2 HS 0 2 [1, 3, 4] rfl rfl hs; clear hs f1_ f2_ f3_) | (go_at_call 50; refine (HSP.out g k3 h3 _ (HS.out.at (i := 0) rfl) (HX.out.code HS.out (i := 0) rfl) hk3).mono ?_; rintro e_ w1 ⟨d4, n4, B4, b4, l4, k4, h4, rfl, hd4, hd5, hn4, hn5, hk4, hok4, hs⟩; have n_ := Aside0.mk (Mod.step (A0 := [srcB g A xs.length c k3 h3]) (R := [rowT B2 b2 l2, bx g_x 26 #[.int .i64 (d : Int), .int .i64 (n : Int), .slice B l.length b], bx g_r2 26 #[(.int .i64 0), (.int .i64 0), (.slice none 0 0)], bx g_r1 26 #[(.int .i64 0), (.int .i64 0), (.slice none 0 0)]]) (HS.out.sel [0, 1, 2, 3, 4] (by decide)) hs (fun k_ hk_ => ⟨_, List.mem_cons_self, hk_⟩)); clear HS hs; have HS := n_; clear n_; simp only [List.cons_append, List.nil_append] at HS) | ((with_reducible refine gate_store (t := 26) (p := 2) rfl ?_); refine stL HS 5 0 #[.int .i64 d2, .int .i64 n2, .slice B2 l2.length b2] rfl rfl rfl rfl rfl ?_; clear HS; intro w1 HS) | ((with_reducible refine gate_store (t := 26) (p := 3) rfl ?_); refine stL HS 4 0 #[.int .i64 d4, .int .i64 n4, .slice B4 l4.length b4] rfl rfl rfl rfl rfl ?_; clear HS; intro w1 HS))
    refine bodyPost_ret (results_cell_cell_row rfl _ _ _ _ _ _ _ _ _ _ _ rfl (HS.out.at (i := 5) rfl) rfl (HS.out.at (i := 4) rfl) Try.underlying26 rfl (by kernel_rfl) (by kernel_rfl)) rfl ?_
    exact ⟨d2, n2, B2, b2, l2, d4, n4, B4, b4, l4, rfl, ⟨hd2, hd3, hn2, hn3⟩, ⟨hd4, hd5, hn4, hn5⟩, hok2, hok4, HS.out.sel [2, 1] (by decide)⟩
  · have hu0 : (u == 0) = false := by rw [beq_eq_false_iff_ne]; exact h0
    clear h0
    go_wp2
    replace HS := sD HS
    refine ps (.p 0 (.p 3 (.p 4 (.t 1 (.t 5 (.e 2 (.d 6 (.d 7 (.d 8 (.d 9 (.d 10 .done))))))))))) (fun w' => w'.cell? ⟨g_x, 0, none⟩ = some (.int .i64 (d : Int)) ∧ w'.cell? ⟨g_x, 1, none⟩ = some (.int .i64 (n : Int)) ∧ w'.cell? ⟨g_x, 2, none⟩ = some (.slice B l.length b)) [6, 7, 8, 9, 10] ⟨HS.out.c 1 0 (v := .int .i64 (d : Int)) rfl rfl, HS.out.c 1 1 (v := .int .i64 (n : Int)) rfl rfl, HS.out.c 1 2 (v := .slice B l.length b) rfl rfl⟩ (fun hHeld => ?_)
    repeat (first | ((with_reducible refine gate_p ?_); refine rp rfl rfl ?_) | ((with_reducible refine gate_t ?_); refine rt rfl rfl hHeld ?_))
    refine run_e rfl (fun K hK => ?_)
    refine gc Try.func100 (HB.out g k2 h2 d n B b l _ (HS.out.at (i := 0) rfl) (HS.out.at (i := 2) rfl) (fun q h1 h2 => HS.out.disj2 (i := 2) (j := 0) rfl rfl (by decide) q h1 h2) (HX.out.apart HS.out 2 rfl) (HX.out.code HS.out (i := 0) rfl) hk2 (by omega) (by omega) hok) rfl rfl ?_
    rintro e_ w1 ⟨d2, n2, B2, b2, l2, k3, h3, rfl, hd2, hd3, hn2, hn3, hk3, hok2, hs⟩
    refine ⟨_, rfl, ?_⟩
    replace HS : Aside0 (Mod _ _ _ [_, _, _, _, _]) := sM2 HS 0 2 [1, 3, 4] rfl rfl hs
    clear hs
    refine ge hK ⟨HS.out.c 2 0 (v := .int .i64 (d : Int)) rfl rfl, HS.out.c 2 1 (v := .int .i64 (n : Int)) rfl rfl, HS.out.c 2 2 (v := .slice B l.length b) rfl rfl⟩ (fun hHeld => ?_)
    clear hK K
    refine run_d rfl (fun K hK => ?_)
    refine gc Try.func62 (specEmpty (d : Int) (n : Int) B l.length b _) rfl rfl ?_
    rintro e_ w1 ⟨B3, b3, rfl, hs⟩
    refine ⟨_, rfl, ?_⟩
    replace HS := sN1 HS hs
    clear hs
    refine gd hK ?_
    clear hK K
    refine run_d rfl (fun K hK => ?_)
    refine gc Try.func112 (HO.out g k3 h3 d n B3 0 b3 _ (HS.out.at (i := 1) rfl) (HX.out.code HS.out (i := 1) rfl) hk3 (by omega) (by omega) (by omega)) rfl rfl ?_
    rintro e_ w1 ⟨B5, b5, l5, k5, h5, rfl, hk5, hbl, hll, hs⟩
    refine ⟨_, rfl, ?_⟩
    have n_ := Aside0.mk (Mod.step (A0 := [srcB g A xs.length c k3 h3]) (R := [rowT B3 b3 [], rowT B2 b2 l2, bx g_x 26 #[.int .i64 (d : Int), .int .i64 (n : Int), .slice B l.length b], bx g_r2 26 #[(.int .i64 0), (.int .i64 0), (.slice none 0 0)], bx g_r1 26 #[(.int .i64 0), (.int .i64 0), (.slice none 0 0)]]) (HS.out.sel [1, 0, 2, 3, 4, 5] (by decide)) hs (fun k_ hk_ => ⟨_, List.mem_cons_self, hk_⟩))
    clear HS hs
    have HS := n_
    clear n_
    simp only [List.cons_append, List.nil_append] at HS
    refine gd hK ?_
    clear hK K
    refine run_d rfl (fun K hK => ?_)
    refine gc Try.func100 (HB.out g k5 h5 d n B5 b5 l5 _ (HS.out.at (i := 0) rfl) (HS.out.at (i := 1) rfl) (fun q h1 h2 => HS.out.disj2 (i := 1) (j := 0) rfl rfl (by decide) q h1 h2) (HX.out.apart HS.out 1 rfl) (HX.out.code HS.out (i := 0) rfl) hk5 (by omega) (by omega) ⟨hbl, hll⟩) rfl rfl ?_
    rintro e_ w1 ⟨d4, n4, B4, b4, l4, k4, h4, rfl, hd4, hd5, hn4, hn5, hk4, hok4, hs⟩
    refine ⟨_, rfl, ?_⟩
    replace HS : Aside0 (Mod _ _ _ [_, _, _, _, _, _, _]) := sM2 HS 0 1 [2, 3, 4, 5, 6] rfl rfl hs
    clear hs
    refine gd hK ?_
    clear hK K
    refine run_d rfl (fun K hK => ?_)
    refine st1 HS 6 0 #[.int .i64 d2, .int .i64 n2, .slice B2 l2.length b2] rfl rfl rfl rfl rfl ?_
    clear HS
    intro w1 HS
    refine goD hK rfl ?_
    clear hK K
    refine run_d rfl (fun K hK => ?_)
    refine st1 HS 5 0 #[.int .i64 d4, .int .i64 n4, .slice B4 l4.length b4] rfl rfl rfl rfl rfl ?_
    clear HS
    intro w1 HS
    refine goD hK rfl ?_
    clear hK K
    refine run_done ?_
    clear hHeld
    go_wp2
    refine bodyPost_ret (results_cell_cell_row rfl _ _ _ _ _ _ _ _ _ _ _ rfl (HS.out.at (i := 6) rfl) rfl (HS.out.at (i := 5) rfl) Try.underlying26 rfl (by kernel_rfl) (by kernel_rfl)) rfl ?_
    exact ⟨d2, n2, B2, b2, l2, d4, n4, B4, b4, l4, rfl, ⟨hd2, hd3, hn2, hn3⟩, ⟨hd4, hd5, hn4, hn5⟩, hok2, hok4, HS.out.sel [3, 1] (by decide)⟩
end Go.Proofs.Ytibjkjhpfmmjoaa.H



namespace Go.Proofs.Ytibjkjhpfmmjoaa.H
open Go.RowKit Go.Proofs.YtibjkjhpfmmjoaaW.PrintWords Go.Proofs.YtibjkjhpfmmjoaaW.PrintLast Go.Proofs.YtibjkjhpfmmjoaaW.PrintMore Go.Proofs.Ytibjkjhpfmmjoaa.M
attribute [local go_sem] max2_int min2_int max_two min_two max_three min_three max_four min_four
set_option linter.unusedVariables false
set_option linter.unusedSimpArgs false
set_option maxRecDepth 100000
def RetOne (w : World) (e : Ending) (w' : World) : Prop := ∃ (d n : Int) (B : Option Addr) (b : Nat) (l : Ts), e = .returned (.agg #[.int .i64 d, .int .i64 n, .slice B l.length b]) ∧ (-1 ≤ d ∧ d ≤ 5 ∧ -1 ≤ n ∧ n ≤ 6) ∧ okT l ∧ Sep w w' [rowT B b l]
def RetOneI (w : World) (e : Ending) (w' : World) : Prop := ∃ (d n : Int) (B : Option Addr) (b : Nat) (l : Ts) (k : Int), e = .returned (.tuple #[.agg #[.int .i64 d, .int .i64 n, .slice B l.length b], .int .i64 k]) ∧ (-1 ≤ d ∧ d ≤ 5 ∧ -1 ≤ n ∧ n ≤ 6) ∧ okT l ∧ (-4611686018427387904 ≤ k ∧ k ≤ 4611686018427387904) ∧ Sep w w' [rowT B b l]
set_option maxHeartbeats 8000000 in
theorem specDrawCommutatorOf (A : Option Addr) (c : Nat) (xs : List Int) (w : World) (hx : Bytes w A xs) : Calls Try.prog 17 #[.slice A xs.length c] w (RetTwo w) := by
  have HX := Aside0.mk hx
  have HS := Aside0.mk (Sep.refl w)
  clear hx
  go_enter Try.func17, Try.ntmps17
  go_wp2_with (first | ((with_reducible refine gate_dst (N := 2) rfl ?_); refine bxL 26 #[(.int .i64 0), (.int .i64 0), (.slice none 0 0)] HS ?_; clear HS; intro g_r1 w1 hg_r1 HS) | ((with_reducible refine gate_dst (N := 3) rfl ?_); refine bxL 26 #[(.int .i64 0), (.int .i64 0), (.slice none 0 0)] HS ?_; clear HS; intro g_r2 w1 hg_r2 HS) | (go_at_call 66; refine (specTwo A c xs _ (HX.out.old HS.out)).mono ?_; rintro e_ w1 ⟨d, n, B, b, l, d2, n2, B2, b2, l2, rfl, hb1, hb2, hok, hok2, hs⟩; replace HS := sN2 HS hs; clear hs) | ((with_reducible refine gate_store (t := 26) (p := 2) rfl ?_); refine stL HS 3 0 #[.int .i64 d, .int .i64 n, .slice B l.length b] rfl rfl rfl rfl rfl ?_; clear HS; intro w1 HS) | ((with_reducible refine gate_store (t := 26) (p := 3) rfl ?_); refine stL HS 2 0 #[.int .i64 d2, .int .i64 n2, .slice B2 l2.length b2] rfl rfl rfl rfl rfl ?_; clear HS; intro w1 HS))
  refine bodyPost_ret (results_cell_cell_row rfl _ _ _ _ _ _ _ _ _ _ _ rfl (HS.out.at (i := 3) rfl) rfl (HS.out.at (i := 2) rfl) Try.underlying26 rfl (by kernel_rfl) (by kernel_rfl)) rfl ?_
  exact ⟨d, n, B, b, l, d2, n2, B2, b2, l2, rfl, hb1, hb2, hok, hok2, HS.out.sel [0, 1] (by decide)⟩
set_option maxHeartbeats 8000000 in
theorem specDrawReversalOf (A : Option Addr) (c : Nat) (xs : List Int) (w : World) (hx : Bytes w A xs) : Calls Try.prog 7 #[.slice A xs.length c] w (RetOne w) := by
  have HX := Aside0.mk hx
  have hl := hx.l
  have HN := Aside0.mk (fun g k h n W k1 k2 hk h1 => specNext g A c xs.length k h n W k1 k2 hk hl h1)
  have HE := Aside0.mk (fun g k h n W k1 k2 hk h1 h2 => specNear g A c xs.length k h n W k1 k2 hk hl h1 h2)
  have HSP := Aside0.mk (fun g k h W k1 k2 hk => specSpoil g A c xs.length k h W k1 k2 hk hl)
  have HP := Aside0.mk (fun g k h B b (x1 x2 x3 x4 x5 x6 : Int) W k1 k2 hk k3 k4 => specPick g A c xs.length k h B b [x1, x2, x3, x4, x5, x6] W k1 k2 hk hl k3 k4 (by simp) (by simp))
  have HS := Aside0.mk (Sep.refl w)
  clear hx
  go_enter Try.func7, Try.ntmps7
  go_wp2_with (first | ((with_reducible refine gate_dst (N := 2) rfl ?_); refine bxL 26 #[(.int .i64 0), (.int .i64 0), (.slice none 0 0)] HS ?_; clear HS; intro g_r w1 hg_r HS) | (go_at_call 51; refine (specFrom A c xs _ (HS.out.oldC HX.out.r) HX.out.l).mono ?_; rintro e_ w1 ⟨g, h, rfl, hs⟩; replace HS := sN1 HS hs; clear hs) | (go_at_call 50; refine (HSP.out g 0 h _ (HS.out.at (i := 0) rfl) (HX.out.code HS.out (i := 0) rfl) (Nat.zero_le _)).mono ?_; rintro e_ w1 ⟨d, n, B, b, l, k1, h1, rfl, hd0, hd1, hn0, hn1, hk1, hok, hs⟩; have n_ := Aside0.mk (Mod.step (A0 := [srcB g A xs.length c 0 h]) (R := [bx g_r 26 #[(.int .i64 0), (.int .i64 0), (.slice none 0 0)]]) (HS.out.sel [0, 1] (by decide)) hs (fun k_ hk_ => ⟨_, List.mem_cons_self, hk_⟩)); clear HS hs; have HS := n_; clear n_; simp only [List.cons_append, List.nil_append] at HS) | ((with_reducible refine gate_store (t := 26) (p := 2) rfl ?_); refine stL HS 2 0 #[.int .i64 d, .int .i64 n, .slice B l.length b] rfl rfl rfl rfl rfl ?_; clear HS; intro w1 HS))
  refine bodyPost_ret (results_cell_row rfl _ _ g_r 26 #[.int .i64 d, .int .i64 n, .slice B l.length b] (0, 0) _ rfl (HS.out.at (i := 2) rfl) Try.underlying26 rfl (by kernel_rfl)) rfl ?_
  exact ⟨d, n, B, b, l, rfl, ⟨hd0, hd1, hn0, hn1⟩, hok, HS.out.sel [1] (by decide)⟩
set_option maxHeartbeats 8000000 in
theorem specDrawTruncateSeries (A : Option Addr) (c : Nat) (xs : List Int) (w : World) (hx : Bytes w A xs) : Calls Try.prog 13 #[.slice A xs.length c] w (RetOneI w) := by
  have HX := Aside0.mk hx
  have hl := hx.l
  have HN := Aside0.mk (fun g k h n W k1 k2 hk h1 => specNext g A c xs.length k h n W k1 k2 hk hl h1)
  have HE := Aside0.mk (fun g k h n W k1 k2 hk h1 h2 => specNear g A c xs.length k h n W k1 k2 hk hl h1 h2)
  have HSP := Aside0.mk (fun g k h W k1 k2 hk => specSpoil g A c xs.length k h W k1 k2 hk hl)
  have HP := Aside0.mk (fun g k h B b (x1 x2 x3 x4 x5 x6 : Int) W k1 k2 hk k3 k4 => specPick g A c xs.length k h B b [x1, x2, x3, x4, x5, x6] W k1 k2 hk hl k3 k4 (by simp) (by simp))
  have HS := Aside0.mk (Sep.refl w)
  clear hx
  go_enter Try.func13, Try.ntmps13
  go_wp2_with (first | ((with_reducible refine gate_dst (N := 2) rfl ?_); refine bxL 26 #[(.int .i64 0), (.int .i64 0), (.slice none 0 0)] HS ?_; clear HS; intro g_r w1 hg_r HS) | (go_at_call 51; refine (specFrom A c xs _ (HS.out.oldC HX.out.r) HX.out.l).mono ?_; rintro e_ w1 ⟨g, h, rfl, hs⟩; replace HS := sN1 HS hs; clear hs) | (go_at_call 50; refine (HSP.out g 0 h _ (HS.out.at (i := 0) rfl) (HX.out.code HS.out (i := 0) rfl) (Nat.zero_le _)).mono ?_; rintro e_ w1 ⟨d, n, B, b, l, k1, h1, rfl, hd0, hd1, hn0, hn1, hk1, hok, hs⟩; have n_ := Aside0.mk (Mod.step (A0 := [srcB g A xs.length c 0 h]) (R := [bx g_r 26 #[(.int .i64 0), (.int .i64 0), (.slice none 0 0)]]) (HS.out.sel [0, 1] (by decide)) hs (fun k_ hk_ => ⟨_, List.mem_cons_self, hk_⟩)); clear HS hs; have HS := n_; clear n_; simp only [List.cons_append, List.nil_append] at HS) | (go_at_call 57; refine (HN.out g k1 h1 7 _ (HS.out.at (i := 0) rfl) (HX.out.code HS.out (i := 0) rfl) hk1 (by omega)).mono ?_; rintro e_ w1 ⟨u, k2, h2, rfl, hk2, hr1, hr2, hs⟩; replace HS : Aside0 (Mod _ _ _ [_, _, _]) := sM1 HS 0 [1, 2] rfl hs; clear hs; obtain ⟨hu1, hu2⟩ := hr1 (by omega); clear hr1 hr2) | ((with_reducible refine gate_store (t := 26) (p := 2) rfl ?_); refine stL HS 2 0 #[.int .i64 d, .int .i64 n, .slice B l.length b] rfl rfl rfl rfl rfl ?_; clear HS; intro w1 HS))
  refine bodyPost_ret (results_cell_tmp_row rfl _ _ g_r 26 #[.int .i64 d, .int .i64 n, .slice B l.length b] (0, 0) _ rfl (HS.out.at (i := 2) rfl) Try.underlying26 rfl (by kernel_rfl)) rfl ?_
  exact ⟨d, n, B, b, l, u, rfl, ⟨hd0, hd1, hn0, hn1⟩, hok, ⟨by omega, by omega⟩, HS.out.sel [1] (by decide)⟩
end Go.Proofs.Ytibjkjhpfmmjoaa.H



namespace Go.Proofs.Ytibjkjhpfmmjoaa.H
open Go.RowKit Go.Proofs.YtibjkjhpfmmjoaaW.PrintWords Go.Proofs.YtibjkjhpfmmjoaaW.PrintLast Go.Proofs.YtibjkjhpfmmjoaaW.PrintMore Go.Proofs.Ytibjkjhpfmmjoaa.M
set_option linter.unusedVariables false
set_option linter.unusedSimpArgs false
set_option maxRecDepth 100000
set_option maxHeartbeats 4000000 in
theorem lawNone9 (w : World) (A : Option Addr) (c : Nat) : Calls Try.prog 19 #[.agg #[.int .i64 0, .int .i64 0, .slice A 0 c]] w fun e w' => e = .returned (.bool true) ∧ Below w.heap.size w w' := by
  have HS := Aside0.mk (Sep.refl w)
  go_enter Try.func19, Try.ntmps19
  go_wp2_with (first | ((with_reducible refine gate_dst (N := 1) rfl ?_); refine bxL 26 #[.int .i64 0, .int .i64 0, .slice A 0 c] HS ?_; clear HS; intro g_a w1 hg_a HS; have f1_ := HS.out.c 0 0 (v := .int .i64 0) rfl rfl; have f2_ := HS.out.c 0 1 (v := .int .i64 0) rfl rfl; have f3_ := HS.out.c 0 2 (v := .slice A 0 c) rfl rfl))
  go_ret
  exact ⟨rfl, HS.out.below⟩
set_option maxHeartbeats 4000000 in
theorem lawTerms9 (A B : Option Addr) (c c' : Nat) (l : Ts) (w : World) (hr : KT.C w A l.length l) (hr2 : KT.C w B l.length l) (hm : l.length ≤ 1048576) :
    Calls Try.prog 56 #[.slice A l.length c, .slice B l.length c'] w fun e w' => e = .returned (.bool true) ∧ Below w.heap.size w w' := by
  have HR := Aside0.mk hr
  have HR2 := Aside0.mk hr2
  have HS := Aside0.mk (Sep.refl w)
  have h1 : ((l.length : Int) != (l.length : Int)) = false := by simp
  clear hr hr2
  go_enter Try.func56, Try.ntmps56
  go_wp2
  go_loopw [5] (fun v w' => ∃ k : Nat, k ≤ l.length ∧ v = .int .i64 (k : Int) ∧ Aside0 (Mod w w' No [])) (fun v _ => l.length - (intOf v).toNat)
  case atStart => exact ⟨0, by omega, rfl, HS⟩
  case round =>
    clear HS
    obtain ⟨k, hk, rfl, HS⟩ := hrel
    by_cases hlt : k < l.length
    · skip
      obtain ⟨ad_A, ea_, h0_, h1_, h2_⟩ := tm_at HR.out k (hlt)
      cases ea_
      obtain ⟨t, ht_⟩ : ∃ t_, t_ = l.getD k zT := ⟨_, rfl⟩
      rw [← ht_] at h0_ h1_ h2_
      have Et := Aside0.mk ht_; have H0t := Aside0.mk h0_; have H1t := Aside0.mk h1_; have H2t := Aside0.mk h2_
      clear ht_ h0_ h1_ h2_
      obtain ⟨ad_B, ea_, h0_, h1_, h2_⟩ := tm_at HR2.out k (hlt)
      cases ea_
      rw [← Et.out] at h0_ h1_ h2_
      have H0u := Aside0.mk h0_; have H1u := Aside0.mk h1_; have H2u := Aside0.mk h2_
      clear h0_ h1_ h2_
      have hq0 : (0 : Int) ≤ k := by omega
      have hq1 : (k : Int) < l.length := by omega
      go_wp2
      replace HS := sD HS
      refine ps (.p 0 (.p 1 (.p 2 (.p 4 (.p 5 (.p 6 (.t 3 (.t 7 (.p 8 .done))))))))) (fun w' => w'.cell? (ad_A.add (k * 3)) = some (.string t.1) ∧ w'.cell? ⟨(ad_A.add (k * 3)).block, (ad_A.add (k * 3)).off + 1, none⟩ = some (.int .i64 t.2.1) ∧ w'.cell? ⟨(ad_A.add (k * 3)).block, (ad_A.add (k * 3)).off + 2, none⟩ = some (.int .i64 t.2.2) ∧ w'.cell? (ad_B.add (k * 3)) = some (.string t.1) ∧ w'.cell? ⟨(ad_B.add (k * 3)).block, (ad_B.add (k * 3)).off + 1, none⟩ = some (.int .i64 t.2.1) ∧ w'.cell? ⟨(ad_B.add (k * 3)).block, (ad_B.add (k * 3)).off + 2, none⟩ = some (.int .i64 t.2.2)) [] ⟨HS.out.old H0t.out, HS.out.old H1t.out, HS.out.old H2t.out, HS.out.old H0u.out, HS.out.old H1u.out, HS.out.old H2u.out⟩ (fun hHeld => ?_)
      repeat (first | ((with_reducible refine gate_p ?_); refine rp rfl rfl ?_) | ((with_reducible refine gate_t ?_); refine rt rfl rfl hHeld ?_))
      refine run_done ?_
      clear hHeld
      go_wp2
      go_roundw
      case rel => exact ⟨k + 1, by omega, by go_num, HS⟩
      case measure => simp [intOf]; omega
    · skip
      go_wp2
      go_ret
      exact ⟨rfl, HS.out.below⟩
set_option maxHeartbeats 4000000 in
theorem lawSeries9 (d n : Int) (A B : Option Addr) (c c' : Nat) (l : Ts) (w : World) (hr : KT.C w A l.length l) (hr2 : KT.C w B l.length l) (hm : l.length ≤ 1048576) :
    Calls Try.prog 10 #[.agg #[.int .i64 d, .int .i64 n, .slice A l.length c], .agg #[.int .i64 d, .int .i64 n, .slice B l.length c']] w fun e w' => e = .returned (.bool true) ∧ Below w.heap.size w w' := by
  have HR := Aside0.mk hr
  have HR2 := Aside0.mk hr2
  have HS := Aside0.mk (Sep.refl w)
  have h1 : (d == d) = true := by simp
  have h2 : (n == n) = true := by simp
  clear hr hr2
  go_enter Try.func10, Try.ntmps10
  go_wp2_with (first | ((with_reducible refine gate_dst (N := 2) rfl ?_); refine bxL 26 #[.int .i64 d, .int .i64 n, .slice A l.length c] HS ?_; clear HS; intro g_a w1 hg_a HS) | ((with_reducible refine gate_dst (N := 3) rfl ?_); refine bxL 26 #[.int .i64 d, .int .i64 n, .slice B l.length c'] HS ?_; clear HS; intro g_b w1 hg_b HS; have f1_ := HS.out.c 1 0 (v := .int .i64 d) rfl rfl; have f2_ := HS.out.c 0 0 (v := .int .i64 d) rfl rfl; have f3_ := HS.out.c 1 1 (v := .int .i64 n) rfl rfl; have f4_ := HS.out.c 0 1 (v := .int .i64 n) rfl rfl; have f5_ := HS.out.c 1 2 (v := .slice A l.length c) rfl rfl; have f6_ := HS.out.c 0 2 (v := .slice B l.length c') rfl rfl) | (go_at_call 56; refine (lawTerms9 A B c c' l _ (HS.out.oldC HR.out) (HS.out.oldC HR2.out) hm).mono ?_; rintro e_ w1 ⟨rfl, hb⟩; replace HS := sB HS hb; clear hb f1_ f2_ f3_ f4_ f5_ f6_))
  go_ret
  exact ⟨rfl, HS.out.below⟩
end Go.Proofs.Ytibjkjhpfmmjoaa.H



namespace Go.Proofs.Ytibjkjhpfmmjoaa.H
open Go.RowKit Go.Proofs.YtibjkjhpfmmjoaaW.PrintWords Go.Proofs.YtibjkjhpfmmjoaaW.PrintLast Go.Proofs.YtibjkjhpfmmjoaaW.PrintMore Go.Proofs.Ytibjkjhpfmmjoaa.M
set_option linter.unusedVariables false
set_option linter.unusedSimpArgs false
set_option maxRecDepth 100000
/-- A series and its code are returned. -/
def GotS (d n : Int) (p : Ts) (c : Int) (w : World) (e : Ending) (w' : World) : Prop := ∃ B b, e = .returned (.tuple #[.agg #[.int .i64 d, .int .i64 n, .slice B p.length b], .int .i64 c]) ∧ Sep w w' [rowT B b p]
theorem got {P : Program} {f : FuncId} {vs : Array Value} {w : World} {r : Rs} {d n : Int} {p : Ts} {c : Int} (h : Calls P f vs w (RetS w r)) (e : r = (d, n, p, c)) : Calls P f vs w (GotS d n p c w) := by subst e; exact h
/-- A fraction and its code are returned. -/
def GotF (a b c : Int) (w : World) (e : Ending) (w' : World) : Prop := e = .returned (.tuple #[.agg #[.int .i64 a, .int .i64 b], .int .i64 c]) ∧ Below w.heap.size w w'
theorem gotF {P : Program} {f : FuncId} {vs : Array Value} {w : World} {r : Rf} {a b c : Int} (h : Calls P f vs w (RetF w r)) (e : r = (a, b, c)) : Calls P f vs w (GotF a b c w) := by subst e; exact h
theorem lawBig (A : Option Addr) (c n : Nat) (w : World) : Calls Try.prog 6 #[.slice A n c] w fun e w' => e = .returned (.bool (decide (4096 < n))) ∧ Below w.heap.size w w' := by
  have HS := Aside0.mk (Sep.refl w)
  have hd : (decide ((4096 : Int) < (n : Int))) = decide (4096 < n) := decide_eq_decide.2 (by omega)
  have HD := Aside0.mk hd
  clear hd
  go_enter Try.func6, Try.ntmps6
  go_wp2
  go_ret
  exact ⟨ret_bool (by first | exact HD.out | simp), HS.out.below⟩
theorem Mod.tmg {w W : World} {S : Nat → Prop} {L : List As} (h : Mod w W S L) (i : Nat) {ad : Addr} {c : Nat} {u : Ts} (hi : L[i]? = some (rowT (some ad) c u)) {j : Nat} {t : Tm} (hj : u[j]? = some t) :
    W.cell? (ad.add (j * 3)) = some (.string t.1) ∧ W.cell? ⟨(ad.add (j * 3)).block, (ad.add (j * 3)).off + 1, none⟩ = some (.int .i64 t.2.1) ∧ W.cell? ⟨(ad.add (j * 3)).block, (ad.add (j * 3)).off + 2, none⟩ = some (.int .i64 t.2.2) := by
  obtain ⟨h1, h2⟩ := List.getElem?_eq_some_iff.1 hj
  obtain ⟨ad', e, h0, h3, h4⟩ := tm_at (h.reads i hi) j h1
  cases e
  rw [List.getD_eq_getElem?_getD, hj] at h0 h3 h4
  exact ⟨h0, h3, h4⟩
theorem row_adr {w : World} {A : Option Addr} {l : Ts} {i : Nat} (h : KT.C w A l.length l) (hi : i < l.length) : ∃ ad, A = some ad := by
  obtain ⟨ad, e, _⟩ := tm_at h i hi
  exact ⟨ad, e⟩
end Go.Proofs.Ytibjkjhpfmmjoaa.H



