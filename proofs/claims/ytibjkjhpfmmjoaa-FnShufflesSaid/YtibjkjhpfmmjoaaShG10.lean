/- Plain facts and contracts of functions that the law's walk uses. Conditions: those that stand in each statement. -/
import Derived.Test.YtibjkjhpfmmjoaaShG9
import Derived.Test.YtibjkjhpfmmjoaaShG5
set_option linter.unusedVariables false
set_option linter.unusedSimpArgs false
namespace Go.Proofs.Ytibjkjhpfmmjoaa.H
open Go.RowKit Go.Proofs.YtibjkjhpfmmjoaaW.PrintWords Go.Proofs.YtibjkjhpfmmjoaaW.PrintLast Go.Proofs.YtibjkjhpfmmjoaaW.PrintMore Go.Proofs.Ytibjkjhpfmmjoaa.M
set_option linter.unusedVariables false
set_option linter.unusedSimpArgs false
set_option maxRecDepth 100000
def GotS (d n : Int) (p : Ts) (c : Int) (w : World) (e : Ending) (w' : World) : Prop := ∃ B b, e = .returned (.tuple #[.agg #[.int .i64 d, .int .i64 n, .slice B p.length b], .int .i64 c]) ∧ Sep w w' [rowT B b p]
theorem got {P : Program} {f : FuncId} {vs : Array Value} {w : World} {r : Rs} {d n : Int} {p : Ts} {c : Int} (h : Calls P f vs w (RetS w r)) (e : r = (d, n, p, c)) : Calls P f vs w (GotS d n p c w) := by subst e; exact h
theorem lawBig (A : Option Addr) (c n : Nat) (w : World) : Calls Try.prog 6 #[.slice A n c] w fun e w' => e = .returned (.bool (decide (4096 < n))) ∧ Below w.heap.size w w' := by
  have HS := Aside0.mk (Sep.refl w)
  have hd : (decide ((4096 : Int) < (n : Int))) = decide (4096 < n) := decide_eq_decide.2 (by omega)
  have HD := Aside0.mk hd
  clear hd
  go_enter Try.func6, Try.ntmps6
  go_wp2
  go_ret
  exact ⟨ret_bool (by first | exact HD.out | simp), HS.out.below⟩
theorem Mod.tmg {w W : World} {S : Nat → Prop} {L : List As} (h : Mod w W S L) (i : Nat) {ad : Addr} {c : Nat} {u : Ts} (hi : L[i]? = some (rowT (some ad) c u)) {j : Nat} {t : Tm} (hj : u[j]? = some t) :
    W.cell? (ad.add (j * 3)) = some (.string t.1) ∧ W.cell? ⟨(ad.add (j * 3)).block, (ad.add (j * 3)).off + 1, none⟩ = some (.int .i64 t.2.1) ∧ W.cell? ⟨(ad.add (j * 3)).block, (ad.add (j * 3)).off + 2, none⟩ = some (.int .i64 t.2.2) := by
  obtain ⟨h1, h2⟩ := List.getElem?_eq_some_iff.1 hj
  obtain ⟨ad', e, h0, h3, h4⟩ := tm_at (h.reads i hi) j h1
  cases e
  rw [List.getD_eq_getElem?_getD, hj] at h0 h3 h4
  exact ⟨h0, h3, h4⟩
theorem row_adr {w : World} {A : Option Addr} {l : Ts} {i : Nat} (h : KT.C w A l.length l) (hi : i < l.length) : ∃ ad, A = some ad := by
  obtain ⟨ad, e, _⟩ := tm_at h i hi
  exact ⟨ad, e⟩
end Go.Proofs.Ytibjkjhpfmmjoaa.H



namespace Go.Proofs.Ytibjkjhpfmmjoaa.H
open Go.RowKit Go.Proofs.YtibjkjhpfmmjoaaW.PrintWords Go.Proofs.YtibjkjhpfmmjoaaW.PrintLast Go.Proofs.YtibjkjhpfmmjoaaW.PrintMore Go.Proofs.Ytibjkjhpfmmjoaa.M
attribute [local go_sem] max2_int min2_int max_two min_two max_three min_three max_four min_four
set_option linter.unusedVariables false
set_option linter.unusedSimpArgs false
set_option maxRecDepth 100000
def others : List ByteArray := [⟨#[50]⟩, ⟨#[120]⟩, ⟨#[48, 48, 48, 48, 48, 48, 48, 48, 48]⟩, ⟨#[51]⟩]
theorem others_size {s : ByteArray} (h : s ∈ others) : s.size ≤ 9 := by
  simp only [others, List.mem_cons, List.not_mem_nil, or_false] at h
  rcases h with rfl | rfl | rfl | rfl <;> decide
set_option maxHeartbeats 8000000 in
theorem specOther (g : Nat) (A : Option Addr) (c m k : Nat) (h : Int) (w : World) (ho : (srcB g A m c k h).I w) (hcd : Code w g A m) (hk : k ≤ m) (hm : m ≤ 1048576) :
    Calls Try.prog 127 #[.pointer (some ⟨g, 0, none⟩)] w fun e w' => ∃ (r : ByteArray) (k' : Nat) (h' : Int), e = .returned (.string r) ∧ k' ≤ m ∧ r.size ≤ 9 ∧ Mod w w' (fun b => b = g) [srcB g A m c k' h'] := by
  have HS := Aside0.mk (Mod.own1 ho)
  have HC := Aside0.mk hcd
  have HN := Aside0.mk (fun k h n W k1 k2 hk h1 => specNext g A c m k h n W k1 k2 hk hm h1)
  have HSG := Aside0.mk (fun (i : Nat) (s : ByteArray) (h : others[i]? = some s) => others_size (List.mem_of_getElem? h))
  clear ho hcd
  go_enter Try.func127, Try.ntmps127
  go_wp2_with (first | ((with_reducible refine gate_dst (N := 4) rfl ?_); refine wpList_stp (fun K hK => ?_); refine stp_lit (Kd.string) rfl 9 (by rfl) HS (xs := [⟨#[50]⟩, ⟨#[120]⟩, ⟨#[48, 48, 48, 48, 48, 48, 48, 48, 48]⟩, ⟨#[51]⟩]) (inner := [.string ⟨#[50]⟩, .string ⟨#[120]⟩, .string ⟨#[48, 48, 48, 48, 48, 48, 48, 48, 48]⟩, .string ⟨#[51]⟩]) (by first | (go_simp; done) | (go_simp; rfl)) (fun W base ok => reps_strs W base ok _) (by simp) ?_; clear HS; intro A_l c_l w1 HS; refine hK _ _ ?_; clear hK K) | (go_at_call 57; refine (HN.out k h 4 _ (HS.out.at (i := 1) rfl) (HC.out.mod HS.out (fun _ h => h)) hk (by omega)).mono ?_; rintro e_ w1 ⟨r, k1, h1, rfl, hk1, hr1, hr2, hs⟩; replace HS : Aside0 (Mod _ _ _ [_, _]) := sM1 HS 1 [0] rfl hs; clear hs; obtain ⟨hr3, hr4⟩ := hr1 (by omega); clear hr1 hr2; obtain ⟨i, rfl⟩ : ∃ i : Nat, r = i := ⟨Int.toNat r, by omega⟩; obtain ⟨x, hx⟩ : ∃ x, others[i]? = some x := ⟨_, List.getElem?_eq_getElem (show i < 4 by omega)⟩; have HX := Aside0.mk hx; clear hx; have hxs := HSG.out i x HX.out; have hil : i < 4 := (by omega); clear hr3 hr4; obtain ⟨ad, ea, h_⟩ := str_at (HS.out.reads 1 rfl) 0 (by decide); clear h_; cases ea; have f1_ := HS.out.sx 1 rfl HX.out))
  go_ret
  exact ⟨x, k1, h1, rfl, hk1, by omega, HS.out.sel [0] (by decide)⟩
set_option maxHeartbeats 8000000 in
theorem specSmall (g : Nat) (A : Option Addr) (c m k : Nat) (h : Int) (d most : Nat) (w : World) (ho : (srcB g A m c k h).I w) (hcd : Code w g A m) (hk : k ≤ m) (hm : m ≤ 1048576) (hd1 : 1 ≤ d) (hd : d ≤ 9) (hmo : most ≤ 1000) :
    Calls Try.prog 85 #[.pointer (some ⟨g, 0, none⟩), .int .i64 (d : Int), .int .i64 (most : Int)] w fun e w' => ∃ (r : ByteArray) (k' : Nat) (h' : Int), e = .returned (.string r) ∧ k' ≤ m ∧ r.size ≤ most + 9 ∧ Mod w w' (fun b => b = g) [srcB g A m c k' h'] := by
  have HS := Aside0.mk (Mod.own1 ho)
  have HC := Aside0.mk hcd
  have HN := Aside0.mk (fun k h n W k1 k2 hk h1 => specNext g A c m k h n W k1 k2 hk hm h1)
  have HOT := Aside0.mk (fun k h W k1 k2 hk => specOther g A c m k h W k1 k2 hk hm)
  clear ho hcd
  go_enter Try.func85, Try.ntmps85
  go_wp2_with (first | (go_at_call 57; refine (HN.out k h ((most : Int) + 1) _ (HS.out.at (i := 0) rfl) (HC.out.mod HS.out (fun _ h => h)) hk (by omega)).mono ?_; rintro e_ w1 ⟨r, k1, h1, rfl, hk1, hr1, hr2, hs⟩; replace HS : Aside0 (Mod _ _ _ [_]) := sM1 HS 0 [] rfl hs; clear hs; obtain ⟨hr3, hr4⟩ := hr1 (by omega); clear hr1 hr2; obtain ⟨i, rfl⟩ : ∃ i : Nat, r = i := ⟨Int.toNat r, by omega⟩; have him : i ≤ most := (by omega); clear hr3 hr4))
  go_loopw [7, 8] (fun x v w' => ∃ (j : Nat) (t : ByteArray) (k1 : Nat) (h1 : Int), j + t.size ≤ most ∧ v = .int .i64 (j : Int) ∧ x = .string t ∧ k1 ≤ m ∧ Aside0 (Mod w w' (srcB g A m c k h).S [srcB g A m c k1 h1])) (fun _ v _ => (intOf v).toNat)
  case atStart => exact ⟨i, ⟨#[]⟩, k1, h1, by show i + 0 ≤ most; omega, rfl, rfl, hk1, HS⟩
  case round =>
    clear HS
    obtain ⟨j, t, k1, h1, hj, rfl, rfl, hk1, HS⟩ := hrel
    by_cases hlt : 0 < j
    · skip
      go_wp2_with (first | (go_at_call 57; refine (HN.out k1 h1 (d : Int) _ (HS.out.at (i := 0) rfl) (HC.out.mod HS.out (fun _ h => h)) hk1 (by omega)).mono ?_; rintro e_ w1 ⟨r, k2, h2, rfl, hk2, hr1, hr2, hs⟩; replace HS : Aside0 (Mod _ _ _ [_]) := sM1 HS 0 [] rfl hs; clear hs; obtain ⟨hr3, hr4⟩ := hr1 (by omega); clear hr1 hr2; obtain ⟨u, rfl⟩ : ∃ i : Nat, r = i := ⟨Int.toNat r, by omega⟩; have hu : u < d := (by omega); clear hr3 hr4; have hw2 : IntKind.u8.wrap (48 + (u : Int)) = 48 + u := u8_small _ (by omega) (by omega); have hcv := byte_string w1 (48 + (u : Int)); have hsz : (9223372036854775807 < t.size + (strOfNums [48 + (u : Int)]).size) = False := eq_false (Nat.not_lt.2 (show t.size + 1 ≤ 9223372036854775807 by omega))))
      go_roundw
      case rel => exact ⟨j - 1, t ++ strOfNums [48 + (u : Int)], k2, h2, by rw [ByteArray.size_append, str1_size]; omega, by first | go_num | (congr 1; omega), rfl, hk2, ⟨HS.out.call (below_alloc (Below.refl _ _) _)⟩⟩
      case measure => simp [intOf]; omega
    · obtain rfl : j = 0 := by omega
      have hts : t.size ≤ most := by omega
      go_wp2_with (first | (go_at_call 57; refine (HN.out k1 h1 40 _ (HS.out.at (i := 0) rfl) (HC.out.mod HS.out (fun _ h => h)) hk1 (by omega)).mono ?_; rintro e_ w1 ⟨r, k2, h2, rfl, hk2, hr1, hr2, hs⟩; replace HS : Aside0 (Mod _ _ _ [_]) := sM1 HS 0 [] rfl hs; clear hs; clear hr1 hr2; refine Hid.out ?_))
      refine Lib.hid ?_
      by_cases h0 : r = 0
      · have hu0 : (r == 0) = true := by rw [h0]; rfl
        clear h0
        go_wp2_with (first | (go_at_call 127; refine (HOT.out k2 h2 _ (HS.out.at (i := 0) rfl) (HC.out.mod HS.out (fun _ h => h)) hk2).mono ?_; rintro e_ w1 ⟨r3, k3, h3, rfl, hk3, hr3, hs⟩; replace HS : Aside0 (Mod _ _ _ [_]) := sM1 HS 0 [] rfl hs; clear hs; have hsz : ¬ (9223372036854775807 < t.size + r3.size) := (by omega)))
        go_ret
        exact ⟨_, k3, h3, rfl, hk3, by rw [ByteArray.size_append]; omega, HS.out⟩
      · have hu0 : (r == 0) = false := by simpa using h0
        clear h0
        go_wp2
        go_ret
        exact ⟨t, k2, h2, rfl, hk2, by omega, HS.out⟩
theorem specSmallI (g : Nat) (A : Option Addr) (c m k : Nat) (h : Int) (d most : Int) (w : World) (ho : (srcB g A m c k h).I w) (hcd : Code w g A m) (hk : k ≤ m) (hm : m ≤ 1048576) (hd1 : 1 ≤ d) (hd : d ≤ 9) (h0 : 0 ≤ most) (hmo : most ≤ 1000) :
    Calls Try.prog 85 #[.pointer (some ⟨g, 0, none⟩), .int .i64 d, .int .i64 most] w fun e w' => ∃ (r : ByteArray) (k' : Nat) (h' : Int), e = .returned (.string r) ∧ k' ≤ m ∧ r.size ≤ most.toNat + 9 ∧ Mod w w' (fun b => b = g) [srcB g A m c k' h'] := by
  obtain ⟨d, rfl⟩ : ∃ d' : Nat, d = d' := ⟨d.toNat, by omega⟩
  obtain ⟨most, rfl⟩ : ∃ d' : Nat, most = d' := ⟨most.toNat, by omega⟩
  rw [Int.toNat_natCast]
  exact specSmall g A c m k h d most w ho hcd hk hm (by omega) (by omega) (by omega)
end Go.Proofs.Ytibjkjhpfmmjoaa.H



namespace Go.Proofs.Ytibjkjhpfmmjoaa.H
open Go.RowKit Go.Proofs.YtibjkjhpfmmjoaaW.PrintWords Go.Proofs.YtibjkjhpfmmjoaaW.PrintLast Go.Proofs.YtibjkjhpfmmjoaaW.PrintMore Go.Proofs.Ytibjkjhpfmmjoaa.M
attribute [local go_sem] max2_int min2_int max_two min_two max_three min_three max_four min_four
set_option linter.unusedVariables false
set_option linter.unusedSimpArgs false
set_option maxRecDepth 100000
theorem results_four {P : Program} {fn : Func} {p q r s : Tmp} (h : fn.results = #[.tmp p, .tmp q, .tmp r, .tmp s]) (tmps : Array Value) (w : World) : (results fn tmps).run P w = .ok (.tuple #[tmps.getD p undef, tmps.getD q undef, tmps.getD r undef, tmps.getD s undef]) w := by
  simp [results, h, Sem.run_bind]
set_option maxHeartbeats 16000000 in
theorem specDrawShuffleWords (A : Option Addr) (c : Nat) (xs : List Int) (w : World) (hx : Bytes w A xs) :
    Calls Try.prog 32 #[.slice A xs.length c] w fun e w' => ∃ (d n : Int) (v y : ByteArray), e = .returned (.tuple #[.int .i64 d, .int .i64 n, .string v, .string y]) ∧ 0 ≤ d ∧ d ≤ 4 ∧ 0 ≤ n ∧ n ≤ 6 ∧ v.size ≤ 12 ∧ y.size ≤ 12 ∧ Below w.heap.size w w' := by
  have HX := Aside0.mk hx
  have hl := hx.l
  have HN := Aside0.mk (fun g k h n W k1 k2 hk h1 => specNext g A c xs.length k h n W k1 k2 hk hl h1)
  have HL := Aside0.mk (fun g k h W k1 k2 hk => specLike g A c xs.length k h W k1 k2 hk hl)
  have HP := Aside0.mk (fun g k h B b (x y : Int) W k1 k2 hk k3 k4 => specPick g A c xs.length k h B b [x, y] W k1 k2 hk hl k3 k4 (by simp) (by simp))
  have HSM := Aside0.mk (fun g k h (d n : Int) W k1 k2 hk h1 h2 h3 h4 => specSmallI g A c xs.length k h d n W k1 k2 hk hl h1 h2 h3 h4)
  have HS := Aside0.mk (Sep.refl w)
  clear hx
  go_enter Try.func32, Try.ntmps32
  go_wp2_with (first | (go_at_call 51; refine (specFrom A c xs _ (HS.out.oldC HX.out.r) HX.out.l).mono ?_; rintro e_ w1 ⟨g, h, rfl, hs⟩; replace HS := sN1 HS hs; clear hs) | (go_at_call 84; refine (HL.out g 0 h _ (HS.out.at (i := 0) rfl) (HX.out.code HS.out (i := 0) rfl) (Nat.zero_le _)).mono ?_; rintro e_ w1 ⟨d, n, B, b, k1, h1, rfl, hd0, hd1, hn0, hn1, hk1, hs⟩; replace HS : Aside0 (Mod _ _ _ [_]) := sM1 HS 0 [] rfl hs; clear hs) | (go_at_call 83; refine (specFit d n B 0 b _ hd0 hd1 hn0 hn1).mono ?_; rintro e_ w1 ⟨n2, rfl, hn2, hn3, hn4, hb⟩; replace HS := sB HS hb; clear hb; clear hn4) | ((with_reducible refine gate_dst (N := 7) rfl ?_); refine bxL 26 #[(.int .i64 0), (.int .i64 0), (.slice none 0 0)] HS ?_; clear HS; intro g_x w1 hg_x HS) | ((with_reducible refine gate_store (t := 26) (p := 7) rfl ?_); refine stL HS 0 0 #[.int .i64 d, .int .i64 n2, .slice B 0 b] rfl rfl rfl rfl rfl ?_; clear HS; intro w1 HS))
  replace HS := sD HS
  refine ps (.p 0 (.p 2 (.t 1 (.p 4 (.t 3 (.p 5 .done)))))) (fun w' => w'.cell? ⟨g_x, 0, none⟩ = some (.int .i64 d) ∧ w'.cell? ⟨g_x, 1, none⟩ = some (.int .i64 n2)) [] ⟨HS.out.c 0 0 (v := .int .i64 d) rfl rfl, HS.out.c 0 1 (v := .int .i64 n2) rfl rfl⟩ (fun hHeld => ?_)
  repeat (first | ((with_reducible refine gate_p ?_); refine rp rfl rfl ?_) | ((with_reducible refine gate_t ?_); refine rt rfl rfl hHeld ?_))
  refine run_done ?_
  clear hHeld
  go_wp2_with (first | (go_at_call 57; refine (HN.out g k1 h1 30 _ (HS.out.at (i := 1) rfl) (HX.out.code HS.out (i := 1) rfl) hk1 (by omega)).mono ?_; rintro e_ w1 ⟨u, k2, h2, rfl, hk2, hr1, hr2, hs⟩; replace HS : Aside0 (Mod _ _ _ [_, _]) := sM1 HS 1 [0] rfl hs; clear hs; clear hr1 hr2; refine Hid.out ?_))
  refine Lib.hid ?_
  clear hn0 hn1
  rcases (show n2 = 1 ∨ n2 = 2 ∨ n2 = 3 ∨ n2 = 4 ∨ n2 = 5 by omega) with e_ | e_ | e_ | e_ | e_
  · subst e_
    by_cases h0 : u = 0
    · have hu0 : (u == 0) = true := by rw [h0]; rfl
      clear h0
      go_wp2_with (first | ((with_reducible refine gate_dst (N := 24) rfl ?_); refine wpList_stp (fun K hK => ?_); refine stp_lit (Kd.int .i64) rfl 2 (by rfl) HS (xs := [0, 4]) (inner := [.int .i64 0, .int .i64 4]) (by first | (go_simp; done) | (go_simp; rfl)) (fun W base ok => reps_ints W base ok _) (by simp) ?_; clear HS; intro A_p c_p w1 HS; refine hK _ _ ?_; clear hK K) | (go_at_call 74; refine (HP.out g k2 h2 A_p c_p 0 4 _ (HS.out.at (i := 1) rfl) (HX.out.code HS.out (i := 1) rfl) hk2 (HS.out.at (i := 0) rfl) (fun q h1 h2 => HS.out.disj2 (i := 0) (j := 1) rfl rfl (by decide) q h1 h2)).mono ?_; rintro e_ w1 ⟨d2, k3, h3, rfl, hk3, hq, hs⟩; replace HS : Aside0 (Mod _ _ _ [_, _, _]) := sM1 HS 1 [0, 2] rfl hs; clear hs; obtain ⟨hq0, hq1⟩ : 0 ≤ d2 ∧ d2 ≤ 4 := (by simp only [List.mem_cons, List.not_mem_nil, or_false] at hq; omega); clear hq))
      replace HS := sD HS
      refine ps (.p 0 (.p 1 (.p 2 (.p 3 (.p 5 (.p 9 (.p 10 (.p 12 (.t 4 (.t 6 (.p 7 (.t 11 (.t 13 (.p 14 (.e 8 (.d 15 (.p 16 (.p 17 (.p 18 (.p 19 .done)))))))))))))))))))) (fun w' => w'.cell? ⟨g_x, 0, none⟩ = some (.int .i64 d) ∧ w'.cell? ⟨g_x, 1, none⟩ = some (.int .i64 1)) [15] ⟨HS.out.c 2 0 (v := .int .i64 d) rfl rfl, HS.out.c 2 1 (v := .int .i64 1) rfl rfl⟩ (fun hHeld => ?_)
      repeat (first | ((with_reducible refine gate_p ?_); refine rp rfl rfl ?_) | ((with_reducible refine gate_t ?_); refine rt rfl rfl hHeld ?_))
      refine run_e rfl (fun K hK => ?_)
      refine gc Try.func85 (HSM.out g k3 h3 d 1 _ (HS.out.at (i := 0) rfl) (HX.out.code HS.out (i := 0) rfl) hk3 (by omega) (by omega) (by first | decide | omega) (by first | decide | omega)) rfl rfl ?_
      rintro e_ w1 ⟨v, k5, h5, rfl, hk5, hv, hs⟩
      refine ⟨_, rfl, ?_⟩
      replace HS : Aside0 (Mod _ _ _ [_, _, _]) := sM1 HS 0 [1, 2] rfl hs
      clear hs
      refine ge hK ⟨HS.out.c 2 0 (v := .int .i64 d) rfl rfl, HS.out.c 2 1 (v := .int .i64 1) rfl rfl⟩ (fun hHeld => ?_)
      clear hK K
      refine run_d rfl (fun K hK => ?_)
      refine gc Try.func85 (HSM.out g k5 h5 d 1 _ (HS.out.at (i := 0) rfl) (HX.out.code HS.out (i := 0) rfl) hk5 (by omega) (by omega) (by first | decide | omega) (by first | decide | omega)) rfl rfl ?_
      rintro e_ w1 ⟨y, k6, h6, rfl, hk6, hy, hs⟩
      refine ⟨_, rfl, ?_⟩
      replace HS : Aside0 (Mod _ _ _ [_, _, _]) := sM1 HS 0 [1, 2] rfl hs
      clear hs
      refine gd hK ?_
      clear hK K
      repeat (first | ((with_reducible refine gate_p ?_); refine rp rfl rfl ?_) | ((with_reducible refine gate_t ?_); refine rt rfl rfl hHeld ?_))
      refine run_done ?_
      clear hHeld
      go_wp2
      refine bodyPost_ret (results_four (by rfl) _ _) rfl ?_
      exact ⟨_, _, v, y, rfl, by omega, by omega, by omega, by omega, Nat.le_trans hv (by decide), Nat.le_trans hy (by decide), (HS.out.sel [] (by decide)).below⟩
    · have hu0 : (u == 0) = false := by simpa using h0
      by_cases h1_ : u = 1
      · have hu1 : (u == 1) = true := by rw [h1_]; rfl
        clear h0 h1_
        go_wp2_with (first | ((with_reducible refine gate_dst (N := 29) rfl ?_); refine wpList_stp (fun K hK => ?_); refine stp_lit (Kd.int .i64) rfl 2 (by rfl) HS (xs := [0, 6]) (inner := [.int .i64 0, .int .i64 6]) (by first | (go_simp; done) | (go_simp; rfl)) (fun W base ok => reps_ints W base ok _) (by simp) ?_; clear HS; intro A_p c_p w1 HS; refine hK _ _ ?_; clear hK K) | (go_at_call 74; refine (HP.out g k2 h2 A_p c_p 0 6 _ (HS.out.at (i := 1) rfl) (HX.out.code HS.out (i := 1) rfl) hk2 (HS.out.at (i := 0) rfl) (fun q h1 h2 => HS.out.disj2 (i := 0) (j := 1) rfl rfl (by decide) q h1 h2)).mono ?_; rintro e_ w1 ⟨d2, k3, h3, rfl, hk3, hq, hs⟩; replace HS : Aside0 (Mod _ _ _ [_, _, _]) := sM1 HS 1 [0, 2] rfl hs; clear hs; obtain ⟨hq0, hq1⟩ : 0 ≤ d2 ∧ d2 ≤ 6 := (by simp only [List.mem_cons, List.not_mem_nil, or_false] at hq; omega); clear hq))
        replace HS := sD HS
        refine ps (.p 0 (.p 1 (.p 2 (.p 3 (.p 5 (.p 9 (.p 10 (.p 12 (.t 4 (.t 6 (.p 7 (.t 11 (.t 13 (.p 14 (.e 8 (.d 15 (.p 16 (.p 17 (.p 18 (.p 19 .done)))))))))))))))))))) (fun w' => w'.cell? ⟨g_x, 0, none⟩ = some (.int .i64 d) ∧ w'.cell? ⟨g_x, 1, none⟩ = some (.int .i64 1)) [15] ⟨HS.out.c 2 0 (v := .int .i64 d) rfl rfl, HS.out.c 2 1 (v := .int .i64 1) rfl rfl⟩ (fun hHeld => ?_)
        repeat (first | ((with_reducible refine gate_p ?_); refine rp rfl rfl ?_) | ((with_reducible refine gate_t ?_); refine rt rfl rfl hHeld ?_))
        refine run_e rfl (fun K hK => ?_)
        refine gc Try.func85 (HSM.out g k3 h3 d 1 _ (HS.out.at (i := 0) rfl) (HX.out.code HS.out (i := 0) rfl) hk3 (by omega) (by omega) (by first | decide | omega) (by first | decide | omega)) rfl rfl ?_
        rintro e_ w1 ⟨v, k5, h5, rfl, hk5, hv, hs⟩
        refine ⟨_, rfl, ?_⟩
        replace HS : Aside0 (Mod _ _ _ [_, _, _]) := sM1 HS 0 [1, 2] rfl hs
        clear hs
        refine ge hK ⟨HS.out.c 2 0 (v := .int .i64 d) rfl rfl, HS.out.c 2 1 (v := .int .i64 1) rfl rfl⟩ (fun hHeld => ?_)
        clear hK K
        refine run_d rfl (fun K hK => ?_)
        refine gc Try.func85 (HSM.out g k5 h5 d 1 _ (HS.out.at (i := 0) rfl) (HX.out.code HS.out (i := 0) rfl) hk5 (by omega) (by omega) (by first | decide | omega) (by first | decide | omega)) rfl rfl ?_
        rintro e_ w1 ⟨y, k6, h6, rfl, hk6, hy, hs⟩
        refine ⟨_, rfl, ?_⟩
        replace HS : Aside0 (Mod _ _ _ [_, _, _]) := sM1 HS 0 [1, 2] rfl hs
        clear hs
        refine gd hK ?_
        clear hK K
        repeat (first | ((with_reducible refine gate_p ?_); refine rp rfl rfl ?_) | ((with_reducible refine gate_t ?_); refine rt rfl rfl hHeld ?_))
        refine run_done ?_
        clear hHeld
        go_wp2
        refine bodyPost_ret (results_four (by rfl) _ _) rfl ?_
        exact ⟨_, _, v, y, rfl, by omega, by omega, by omega, by omega, Nat.le_trans hv (by decide), Nat.le_trans hy (by decide), (HS.out.sel [] (by decide)).below⟩
      · have hu1 : (u == 1) = false := by simpa using h1_
        clear h0 h1_
        go_wp2
        replace HS := sD HS
        refine ps (.p 0 (.p 1 (.p 2 (.p 3 (.p 5 (.p 9 (.p 10 (.p 12 (.t 4 (.t 6 (.p 7 (.t 11 (.t 13 (.p 14 (.e 8 (.d 15 (.p 16 (.p 17 (.p 18 (.p 19 .done)))))))))))))))))))) (fun w' => w'.cell? ⟨g_x, 0, none⟩ = some (.int .i64 d) ∧ w'.cell? ⟨g_x, 1, none⟩ = some (.int .i64 1)) [15] ⟨HS.out.c 1 0 (v := .int .i64 d) rfl rfl, HS.out.c 1 1 (v := .int .i64 1) rfl rfl⟩ (fun hHeld => ?_)
        repeat (first | ((with_reducible refine gate_p ?_); refine rp rfl rfl ?_) | ((with_reducible refine gate_t ?_); refine rt rfl rfl hHeld ?_))
        refine run_e rfl (fun K hK => ?_)
        refine gc Try.func85 (HSM.out g k2 h2 d 1 _ (HS.out.at (i := 0) rfl) (HX.out.code HS.out (i := 0) rfl) hk2 (by omega) (by omega) (by first | decide | omega) (by first | decide | omega)) rfl rfl ?_
        rintro e_ w1 ⟨v, k5, h5, rfl, hk5, hv, hs⟩
        refine ⟨_, rfl, ?_⟩
        replace HS : Aside0 (Mod _ _ _ [_, _]) := sM1 HS 0 [1] rfl hs
        clear hs
        refine ge hK ⟨HS.out.c 1 0 (v := .int .i64 d) rfl rfl, HS.out.c 1 1 (v := .int .i64 1) rfl rfl⟩ (fun hHeld => ?_)
        clear hK K
        refine run_d rfl (fun K hK => ?_)
        refine gc Try.func85 (HSM.out g k5 h5 d 1 _ (HS.out.at (i := 0) rfl) (HX.out.code HS.out (i := 0) rfl) hk5 (by omega) (by omega) (by first | decide | omega) (by first | decide | omega)) rfl rfl ?_
        rintro e_ w1 ⟨y, k6, h6, rfl, hk6, hy, hs⟩
        refine ⟨_, rfl, ?_⟩
        replace HS : Aside0 (Mod _ _ _ [_, _]) := sM1 HS 0 [1] rfl hs
        clear hs
        refine gd hK ?_
        clear hK K
        repeat (first | ((with_reducible refine gate_p ?_); refine rp rfl rfl ?_) | ((with_reducible refine gate_t ?_); refine rt rfl rfl hHeld ?_))
        refine run_done ?_
        clear hHeld
        go_wp2
        refine bodyPost_ret (results_four (by rfl) _ _) rfl ?_
        exact ⟨_, _, v, y, rfl, by omega, by omega, by omega, by omega, Nat.le_trans hv (by decide), Nat.le_trans hy (by decide), (HS.out.sel [] (by decide)).below⟩
  · subst e_
    by_cases h0 : u = 0
    · have hu0 : (u == 0) = true := by rw [h0]; rfl
      clear h0
      go_wp2_with (first | ((with_reducible refine gate_dst (N := 24) rfl ?_); refine wpList_stp (fun K hK => ?_); refine stp_lit (Kd.int .i64) rfl 2 (by rfl) HS (xs := [0, 4]) (inner := [.int .i64 0, .int .i64 4]) (by first | (go_simp; done) | (go_simp; rfl)) (fun W base ok => reps_ints W base ok _) (by simp) ?_; clear HS; intro A_p c_p w1 HS; refine hK _ _ ?_; clear hK K) | (go_at_call 74; refine (HP.out g k2 h2 A_p c_p 0 4 _ (HS.out.at (i := 1) rfl) (HX.out.code HS.out (i := 1) rfl) hk2 (HS.out.at (i := 0) rfl) (fun q h1 h2 => HS.out.disj2 (i := 0) (j := 1) rfl rfl (by decide) q h1 h2)).mono ?_; rintro e_ w1 ⟨d2, k3, h3, rfl, hk3, hq, hs⟩; replace HS : Aside0 (Mod _ _ _ [_, _, _]) := sM1 HS 1 [0, 2] rfl hs; clear hs; obtain ⟨hq0, hq1⟩ : 0 ≤ d2 ∧ d2 ≤ 4 := (by simp only [List.mem_cons, List.not_mem_nil, or_false] at hq; omega); clear hq))
      replace HS := sD HS
      refine ps (.p 0 (.p 1 (.p 2 (.p 3 (.p 5 (.p 9 (.p 10 (.p 12 (.t 4 (.t 6 (.p 7 (.t 11 (.t 13 (.p 14 (.e 8 (.d 15 (.p 16 (.p 17 (.p 18 (.p 19 .done)))))))))))))))))))) (fun w' => w'.cell? ⟨g_x, 0, none⟩ = some (.int .i64 d) ∧ w'.cell? ⟨g_x, 1, none⟩ = some (.int .i64 2)) [15] ⟨HS.out.c 2 0 (v := .int .i64 d) rfl rfl, HS.out.c 2 1 (v := .int .i64 2) rfl rfl⟩ (fun hHeld => ?_)
      repeat (first | ((with_reducible refine gate_p ?_); refine rp rfl rfl ?_) | ((with_reducible refine gate_t ?_); refine rt rfl rfl hHeld ?_))
      refine run_e rfl (fun K hK => ?_)
      refine gc Try.func85 (HSM.out g k3 h3 d 2 _ (HS.out.at (i := 0) rfl) (HX.out.code HS.out (i := 0) rfl) hk3 (by omega) (by omega) (by first | decide | omega) (by first | decide | omega)) rfl rfl ?_
      rintro e_ w1 ⟨v, k5, h5, rfl, hk5, hv, hs⟩
      refine ⟨_, rfl, ?_⟩
      replace HS : Aside0 (Mod _ _ _ [_, _, _]) := sM1 HS 0 [1, 2] rfl hs
      clear hs
      refine ge hK ⟨HS.out.c 2 0 (v := .int .i64 d) rfl rfl, HS.out.c 2 1 (v := .int .i64 2) rfl rfl⟩ (fun hHeld => ?_)
      clear hK K
      refine run_d rfl (fun K hK => ?_)
      refine gc Try.func85 (HSM.out g k5 h5 d 2 _ (HS.out.at (i := 0) rfl) (HX.out.code HS.out (i := 0) rfl) hk5 (by omega) (by omega) (by first | decide | omega) (by first | decide | omega)) rfl rfl ?_
      rintro e_ w1 ⟨y, k6, h6, rfl, hk6, hy, hs⟩
      refine ⟨_, rfl, ?_⟩
      replace HS : Aside0 (Mod _ _ _ [_, _, _]) := sM1 HS 0 [1, 2] rfl hs
      clear hs
      refine gd hK ?_
      clear hK K
      repeat (first | ((with_reducible refine gate_p ?_); refine rp rfl rfl ?_) | ((with_reducible refine gate_t ?_); refine rt rfl rfl hHeld ?_))
      refine run_done ?_
      clear hHeld
      go_wp2
      refine bodyPost_ret (results_four (by rfl) _ _) rfl ?_
      exact ⟨_, _, v, y, rfl, by omega, by omega, by omega, by omega, Nat.le_trans hv (by decide), Nat.le_trans hy (by decide), (HS.out.sel [] (by decide)).below⟩
    · have hu0 : (u == 0) = false := by simpa using h0
      by_cases h1_ : u = 1
      · have hu1 : (u == 1) = true := by rw [h1_]; rfl
        clear h0 h1_
        go_wp2_with (first | ((with_reducible refine gate_dst (N := 29) rfl ?_); refine wpList_stp (fun K hK => ?_); refine stp_lit (Kd.int .i64) rfl 2 (by rfl) HS (xs := [0, 6]) (inner := [.int .i64 0, .int .i64 6]) (by first | (go_simp; done) | (go_simp; rfl)) (fun W base ok => reps_ints W base ok _) (by simp) ?_; clear HS; intro A_p c_p w1 HS; refine hK _ _ ?_; clear hK K) | (go_at_call 74; refine (HP.out g k2 h2 A_p c_p 0 6 _ (HS.out.at (i := 1) rfl) (HX.out.code HS.out (i := 1) rfl) hk2 (HS.out.at (i := 0) rfl) (fun q h1 h2 => HS.out.disj2 (i := 0) (j := 1) rfl rfl (by decide) q h1 h2)).mono ?_; rintro e_ w1 ⟨d2, k3, h3, rfl, hk3, hq, hs⟩; replace HS : Aside0 (Mod _ _ _ [_, _, _]) := sM1 HS 1 [0, 2] rfl hs; clear hs; obtain ⟨hq0, hq1⟩ : 0 ≤ d2 ∧ d2 ≤ 6 := (by simp only [List.mem_cons, List.not_mem_nil, or_false] at hq; omega); clear hq))
        replace HS := sD HS
        refine ps (.p 0 (.p 1 (.p 2 (.p 3 (.p 5 (.p 9 (.p 10 (.p 12 (.t 4 (.t 6 (.p 7 (.t 11 (.t 13 (.p 14 (.e 8 (.d 15 (.p 16 (.p 17 (.p 18 (.p 19 .done)))))))))))))))))))) (fun w' => w'.cell? ⟨g_x, 0, none⟩ = some (.int .i64 d) ∧ w'.cell? ⟨g_x, 1, none⟩ = some (.int .i64 2)) [15] ⟨HS.out.c 2 0 (v := .int .i64 d) rfl rfl, HS.out.c 2 1 (v := .int .i64 2) rfl rfl⟩ (fun hHeld => ?_)
        repeat (first | ((with_reducible refine gate_p ?_); refine rp rfl rfl ?_) | ((with_reducible refine gate_t ?_); refine rt rfl rfl hHeld ?_))
        refine run_e rfl (fun K hK => ?_)
        refine gc Try.func85 (HSM.out g k3 h3 d 2 _ (HS.out.at (i := 0) rfl) (HX.out.code HS.out (i := 0) rfl) hk3 (by omega) (by omega) (by first | decide | omega) (by first | decide | omega)) rfl rfl ?_
        rintro e_ w1 ⟨v, k5, h5, rfl, hk5, hv, hs⟩
        refine ⟨_, rfl, ?_⟩
        replace HS : Aside0 (Mod _ _ _ [_, _, _]) := sM1 HS 0 [1, 2] rfl hs
        clear hs
        refine ge hK ⟨HS.out.c 2 0 (v := .int .i64 d) rfl rfl, HS.out.c 2 1 (v := .int .i64 2) rfl rfl⟩ (fun hHeld => ?_)
        clear hK K
        refine run_d rfl (fun K hK => ?_)
        refine gc Try.func85 (HSM.out g k5 h5 d 2 _ (HS.out.at (i := 0) rfl) (HX.out.code HS.out (i := 0) rfl) hk5 (by omega) (by omega) (by first | decide | omega) (by first | decide | omega)) rfl rfl ?_
        rintro e_ w1 ⟨y, k6, h6, rfl, hk6, hy, hs⟩
        refine ⟨_, rfl, ?_⟩
        replace HS : Aside0 (Mod _ _ _ [_, _, _]) := sM1 HS 0 [1, 2] rfl hs
        clear hs
        refine gd hK ?_
        clear hK K
        repeat (first | ((with_reducible refine gate_p ?_); refine rp rfl rfl ?_) | ((with_reducible refine gate_t ?_); refine rt rfl rfl hHeld ?_))
        refine run_done ?_
        clear hHeld
        go_wp2
        refine bodyPost_ret (results_four (by rfl) _ _) rfl ?_
        exact ⟨_, _, v, y, rfl, by omega, by omega, by omega, by omega, Nat.le_trans hv (by decide), Nat.le_trans hy (by decide), (HS.out.sel [] (by decide)).below⟩
      · have hu1 : (u == 1) = false := by simpa using h1_
        clear h0 h1_
        go_wp2
        replace HS := sD HS
        refine ps (.p 0 (.p 1 (.p 2 (.p 3 (.p 5 (.p 9 (.p 10 (.p 12 (.t 4 (.t 6 (.p 7 (.t 11 (.t 13 (.p 14 (.e 8 (.d 15 (.p 16 (.p 17 (.p 18 (.p 19 .done)))))))))))))))))))) (fun w' => w'.cell? ⟨g_x, 0, none⟩ = some (.int .i64 d) ∧ w'.cell? ⟨g_x, 1, none⟩ = some (.int .i64 2)) [15] ⟨HS.out.c 1 0 (v := .int .i64 d) rfl rfl, HS.out.c 1 1 (v := .int .i64 2) rfl rfl⟩ (fun hHeld => ?_)
        repeat (first | ((with_reducible refine gate_p ?_); refine rp rfl rfl ?_) | ((with_reducible refine gate_t ?_); refine rt rfl rfl hHeld ?_))
        refine run_e rfl (fun K hK => ?_)
        refine gc Try.func85 (HSM.out g k2 h2 d 2 _ (HS.out.at (i := 0) rfl) (HX.out.code HS.out (i := 0) rfl) hk2 (by omega) (by omega) (by first | decide | omega) (by first | decide | omega)) rfl rfl ?_
        rintro e_ w1 ⟨v, k5, h5, rfl, hk5, hv, hs⟩
        refine ⟨_, rfl, ?_⟩
        replace HS : Aside0 (Mod _ _ _ [_, _]) := sM1 HS 0 [1] rfl hs
        clear hs
        refine ge hK ⟨HS.out.c 1 0 (v := .int .i64 d) rfl rfl, HS.out.c 1 1 (v := .int .i64 2) rfl rfl⟩ (fun hHeld => ?_)
        clear hK K
        refine run_d rfl (fun K hK => ?_)
        refine gc Try.func85 (HSM.out g k5 h5 d 2 _ (HS.out.at (i := 0) rfl) (HX.out.code HS.out (i := 0) rfl) hk5 (by omega) (by omega) (by first | decide | omega) (by first | decide | omega)) rfl rfl ?_
        rintro e_ w1 ⟨y, k6, h6, rfl, hk6, hy, hs⟩
        refine ⟨_, rfl, ?_⟩
        replace HS : Aside0 (Mod _ _ _ [_, _]) := sM1 HS 0 [1] rfl hs
        clear hs
        refine gd hK ?_
        clear hK K
        repeat (first | ((with_reducible refine gate_p ?_); refine rp rfl rfl ?_) | ((with_reducible refine gate_t ?_); refine rt rfl rfl hHeld ?_))
        refine run_done ?_
        clear hHeld
        go_wp2
        refine bodyPost_ret (results_four (by rfl) _ _) rfl ?_
        exact ⟨_, _, v, y, rfl, by omega, by omega, by omega, by omega, Nat.le_trans hv (by decide), Nat.le_trans hy (by decide), (HS.out.sel [] (by decide)).below⟩
  · subst e_
    by_cases h0 : u = 0
    · have hu0 : (u == 0) = true := by rw [h0]; rfl
      clear h0
      go_wp2_with (first | ((with_reducible refine gate_dst (N := 24) rfl ?_); refine wpList_stp (fun K hK => ?_); refine stp_lit (Kd.int .i64) rfl 2 (by rfl) HS (xs := [0, 4]) (inner := [.int .i64 0, .int .i64 4]) (by first | (go_simp; done) | (go_simp; rfl)) (fun W base ok => reps_ints W base ok _) (by simp) ?_; clear HS; intro A_p c_p w1 HS; refine hK _ _ ?_; clear hK K) | (go_at_call 74; refine (HP.out g k2 h2 A_p c_p 0 4 _ (HS.out.at (i := 1) rfl) (HX.out.code HS.out (i := 1) rfl) hk2 (HS.out.at (i := 0) rfl) (fun q h1 h2 => HS.out.disj2 (i := 0) (j := 1) rfl rfl (by decide) q h1 h2)).mono ?_; rintro e_ w1 ⟨d2, k3, h3, rfl, hk3, hq, hs⟩; replace HS : Aside0 (Mod _ _ _ [_, _, _]) := sM1 HS 1 [0, 2] rfl hs; clear hs; obtain ⟨hq0, hq1⟩ : 0 ≤ d2 ∧ d2 ≤ 4 := (by simp only [List.mem_cons, List.not_mem_nil, or_false] at hq; omega); clear hq))
      replace HS := sD HS
      refine ps (.p 0 (.p 1 (.p 2 (.p 3 (.p 5 (.p 9 (.p 10 (.p 12 (.t 4 (.t 6 (.p 7 (.t 11 (.t 13 (.p 14 (.e 8 (.d 15 (.p 16 (.p 17 (.p 18 (.p 19 .done)))))))))))))))))))) (fun w' => w'.cell? ⟨g_x, 0, none⟩ = some (.int .i64 d) ∧ w'.cell? ⟨g_x, 1, none⟩ = some (.int .i64 3)) [15] ⟨HS.out.c 2 0 (v := .int .i64 d) rfl rfl, HS.out.c 2 1 (v := .int .i64 3) rfl rfl⟩ (fun hHeld => ?_)
      repeat (first | ((with_reducible refine gate_p ?_); refine rp rfl rfl ?_) | ((with_reducible refine gate_t ?_); refine rt rfl rfl hHeld ?_))
      refine run_e rfl (fun K hK => ?_)
      refine gc Try.func85 (HSM.out g k3 h3 d 3 _ (HS.out.at (i := 0) rfl) (HX.out.code HS.out (i := 0) rfl) hk3 (by omega) (by omega) (by first | decide | omega) (by first | decide | omega)) rfl rfl ?_
      rintro e_ w1 ⟨v, k5, h5, rfl, hk5, hv, hs⟩
      refine ⟨_, rfl, ?_⟩
      replace HS : Aside0 (Mod _ _ _ [_, _, _]) := sM1 HS 0 [1, 2] rfl hs
      clear hs
      refine ge hK ⟨HS.out.c 2 0 (v := .int .i64 d) rfl rfl, HS.out.c 2 1 (v := .int .i64 3) rfl rfl⟩ (fun hHeld => ?_)
      clear hK K
      refine run_d rfl (fun K hK => ?_)
      refine gc Try.func85 (HSM.out g k5 h5 d 2 _ (HS.out.at (i := 0) rfl) (HX.out.code HS.out (i := 0) rfl) hk5 (by omega) (by omega) (by first | decide | omega) (by first | decide | omega)) rfl rfl ?_
      rintro e_ w1 ⟨y, k6, h6, rfl, hk6, hy, hs⟩
      refine ⟨_, rfl, ?_⟩
      replace HS : Aside0 (Mod _ _ _ [_, _, _]) := sM1 HS 0 [1, 2] rfl hs
      clear hs
      refine gd hK ?_
      clear hK K
      repeat (first | ((with_reducible refine gate_p ?_); refine rp rfl rfl ?_) | ((with_reducible refine gate_t ?_); refine rt rfl rfl hHeld ?_))
      refine run_done ?_
      clear hHeld
      go_wp2
      refine bodyPost_ret (results_four (by rfl) _ _) rfl ?_
      exact ⟨_, _, v, y, rfl, by omega, by omega, by omega, by omega, Nat.le_trans hv (by decide), Nat.le_trans hy (by decide), (HS.out.sel [] (by decide)).below⟩
    · have hu0 : (u == 0) = false := by simpa using h0
      by_cases h1_ : u = 1
      · have hu1 : (u == 1) = true := by rw [h1_]; rfl
        clear h0 h1_
        go_wp2_with (first | ((with_reducible refine gate_dst (N := 29) rfl ?_); refine wpList_stp (fun K hK => ?_); refine stp_lit (Kd.int .i64) rfl 2 (by rfl) HS (xs := [0, 6]) (inner := [.int .i64 0, .int .i64 6]) (by first | (go_simp; done) | (go_simp; rfl)) (fun W base ok => reps_ints W base ok _) (by simp) ?_; clear HS; intro A_p c_p w1 HS; refine hK _ _ ?_; clear hK K) | (go_at_call 74; refine (HP.out g k2 h2 A_p c_p 0 6 _ (HS.out.at (i := 1) rfl) (HX.out.code HS.out (i := 1) rfl) hk2 (HS.out.at (i := 0) rfl) (fun q h1 h2 => HS.out.disj2 (i := 0) (j := 1) rfl rfl (by decide) q h1 h2)).mono ?_; rintro e_ w1 ⟨d2, k3, h3, rfl, hk3, hq, hs⟩; replace HS : Aside0 (Mod _ _ _ [_, _, _]) := sM1 HS 1 [0, 2] rfl hs; clear hs; obtain ⟨hq0, hq1⟩ : 0 ≤ d2 ∧ d2 ≤ 6 := (by simp only [List.mem_cons, List.not_mem_nil, or_false] at hq; omega); clear hq))
        replace HS := sD HS
        refine ps (.p 0 (.p 1 (.p 2 (.p 3 (.p 5 (.p 9 (.p 10 (.p 12 (.t 4 (.t 6 (.p 7 (.t 11 (.t 13 (.p 14 (.e 8 (.d 15 (.p 16 (.p 17 (.p 18 (.p 19 .done)))))))))))))))))))) (fun w' => w'.cell? ⟨g_x, 0, none⟩ = some (.int .i64 d) ∧ w'.cell? ⟨g_x, 1, none⟩ = some (.int .i64 3)) [15] ⟨HS.out.c 2 0 (v := .int .i64 d) rfl rfl, HS.out.c 2 1 (v := .int .i64 3) rfl rfl⟩ (fun hHeld => ?_)
        repeat (first | ((with_reducible refine gate_p ?_); refine rp rfl rfl ?_) | ((with_reducible refine gate_t ?_); refine rt rfl rfl hHeld ?_))
        refine run_e rfl (fun K hK => ?_)
        refine gc Try.func85 (HSM.out g k3 h3 d 3 _ (HS.out.at (i := 0) rfl) (HX.out.code HS.out (i := 0) rfl) hk3 (by omega) (by omega) (by first | decide | omega) (by first | decide | omega)) rfl rfl ?_
        rintro e_ w1 ⟨v, k5, h5, rfl, hk5, hv, hs⟩
        refine ⟨_, rfl, ?_⟩
        replace HS : Aside0 (Mod _ _ _ [_, _, _]) := sM1 HS 0 [1, 2] rfl hs
        clear hs
        refine ge hK ⟨HS.out.c 2 0 (v := .int .i64 d) rfl rfl, HS.out.c 2 1 (v := .int .i64 3) rfl rfl⟩ (fun hHeld => ?_)
        clear hK K
        refine run_d rfl (fun K hK => ?_)
        refine gc Try.func85 (HSM.out g k5 h5 d 2 _ (HS.out.at (i := 0) rfl) (HX.out.code HS.out (i := 0) rfl) hk5 (by omega) (by omega) (by first | decide | omega) (by first | decide | omega)) rfl rfl ?_
        rintro e_ w1 ⟨y, k6, h6, rfl, hk6, hy, hs⟩
        refine ⟨_, rfl, ?_⟩
        replace HS : Aside0 (Mod _ _ _ [_, _, _]) := sM1 HS 0 [1, 2] rfl hs
        clear hs
        refine gd hK ?_
        clear hK K
        repeat (first | ((with_reducible refine gate_p ?_); refine rp rfl rfl ?_) | ((with_reducible refine gate_t ?_); refine rt rfl rfl hHeld ?_))
        refine run_done ?_
        clear hHeld
        go_wp2
        refine bodyPost_ret (results_four (by rfl) _ _) rfl ?_
        exact ⟨_, _, v, y, rfl, by omega, by omega, by omega, by omega, Nat.le_trans hv (by decide), Nat.le_trans hy (by decide), (HS.out.sel [] (by decide)).below⟩
      · have hu1 : (u == 1) = false := by simpa using h1_
        clear h0 h1_
        go_wp2
        replace HS := sD HS
        refine ps (.p 0 (.p 1 (.p 2 (.p 3 (.p 5 (.p 9 (.p 10 (.p 12 (.t 4 (.t 6 (.p 7 (.t 11 (.t 13 (.p 14 (.e 8 (.d 15 (.p 16 (.p 17 (.p 18 (.p 19 .done)))))))))))))))))))) (fun w' => w'.cell? ⟨g_x, 0, none⟩ = some (.int .i64 d) ∧ w'.cell? ⟨g_x, 1, none⟩ = some (.int .i64 3)) [15] ⟨HS.out.c 1 0 (v := .int .i64 d) rfl rfl, HS.out.c 1 1 (v := .int .i64 3) rfl rfl⟩ (fun hHeld => ?_)
        repeat (first | ((with_reducible refine gate_p ?_); refine rp rfl rfl ?_) | ((with_reducible refine gate_t ?_); refine rt rfl rfl hHeld ?_))
        refine run_e rfl (fun K hK => ?_)
        refine gc Try.func85 (HSM.out g k2 h2 d 3 _ (HS.out.at (i := 0) rfl) (HX.out.code HS.out (i := 0) rfl) hk2 (by omega) (by omega) (by first | decide | omega) (by first | decide | omega)) rfl rfl ?_
        rintro e_ w1 ⟨v, k5, h5, rfl, hk5, hv, hs⟩
        refine ⟨_, rfl, ?_⟩
        replace HS : Aside0 (Mod _ _ _ [_, _]) := sM1 HS 0 [1] rfl hs
        clear hs
        refine ge hK ⟨HS.out.c 1 0 (v := .int .i64 d) rfl rfl, HS.out.c 1 1 (v := .int .i64 3) rfl rfl⟩ (fun hHeld => ?_)
        clear hK K
        refine run_d rfl (fun K hK => ?_)
        refine gc Try.func85 (HSM.out g k5 h5 d 2 _ (HS.out.at (i := 0) rfl) (HX.out.code HS.out (i := 0) rfl) hk5 (by omega) (by omega) (by first | decide | omega) (by first | decide | omega)) rfl rfl ?_
        rintro e_ w1 ⟨y, k6, h6, rfl, hk6, hy, hs⟩
        refine ⟨_, rfl, ?_⟩
        replace HS : Aside0 (Mod _ _ _ [_, _]) := sM1 HS 0 [1] rfl hs
        clear hs
        refine gd hK ?_
        clear hK K
        repeat (first | ((with_reducible refine gate_p ?_); refine rp rfl rfl ?_) | ((with_reducible refine gate_t ?_); refine rt rfl rfl hHeld ?_))
        refine run_done ?_
        clear hHeld
        go_wp2
        refine bodyPost_ret (results_four (by rfl) _ _) rfl ?_
        exact ⟨_, _, v, y, rfl, by omega, by omega, by omega, by omega, Nat.le_trans hv (by decide), Nat.le_trans hy (by decide), (HS.out.sel [] (by decide)).below⟩
  · subst e_
    by_cases h0 : u = 0
    · have hu0 : (u == 0) = true := by rw [h0]; rfl
      clear h0
      go_wp2_with (first | ((with_reducible refine gate_dst (N := 24) rfl ?_); refine wpList_stp (fun K hK => ?_); refine stp_lit (Kd.int .i64) rfl 2 (by rfl) HS (xs := [0, 4]) (inner := [.int .i64 0, .int .i64 4]) (by first | (go_simp; done) | (go_simp; rfl)) (fun W base ok => reps_ints W base ok _) (by simp) ?_; clear HS; intro A_p c_p w1 HS; refine hK _ _ ?_; clear hK K) | (go_at_call 74; refine (HP.out g k2 h2 A_p c_p 0 4 _ (HS.out.at (i := 1) rfl) (HX.out.code HS.out (i := 1) rfl) hk2 (HS.out.at (i := 0) rfl) (fun q h1 h2 => HS.out.disj2 (i := 0) (j := 1) rfl rfl (by decide) q h1 h2)).mono ?_; rintro e_ w1 ⟨d2, k3, h3, rfl, hk3, hq, hs⟩; replace HS : Aside0 (Mod _ _ _ [_, _, _]) := sM1 HS 1 [0, 2] rfl hs; clear hs; obtain ⟨hq0, hq1⟩ : 0 ≤ d2 ∧ d2 ≤ 4 := (by simp only [List.mem_cons, List.not_mem_nil, or_false] at hq; omega); clear hq))
      replace HS := sD HS
      refine ps (.p 0 (.p 1 (.p 2 (.p 3 (.p 5 (.p 9 (.p 10 (.p 12 (.t 4 (.t 6 (.p 7 (.t 11 (.t 13 (.p 14 (.e 8 (.d 15 (.p 16 (.p 17 (.p 18 (.p 19 .done)))))))))))))))))))) (fun w' => w'.cell? ⟨g_x, 0, none⟩ = some (.int .i64 d) ∧ w'.cell? ⟨g_x, 1, none⟩ = some (.int .i64 4)) [15] ⟨HS.out.c 2 0 (v := .int .i64 d) rfl rfl, HS.out.c 2 1 (v := .int .i64 4) rfl rfl⟩ (fun hHeld => ?_)
      repeat (first | ((with_reducible refine gate_p ?_); refine rp rfl rfl ?_) | ((with_reducible refine gate_t ?_); refine rt rfl rfl hHeld ?_))
      refine run_e rfl (fun K hK => ?_)
      refine gc Try.func85 (HSM.out g k3 h3 d 3 _ (HS.out.at (i := 0) rfl) (HX.out.code HS.out (i := 0) rfl) hk3 (by omega) (by omega) (by first | decide | omega) (by first | decide | omega)) rfl rfl ?_
      rintro e_ w1 ⟨v, k5, h5, rfl, hk5, hv, hs⟩
      refine ⟨_, rfl, ?_⟩
      replace HS : Aside0 (Mod _ _ _ [_, _, _]) := sM1 HS 0 [1, 2] rfl hs
      clear hs
      refine ge hK ⟨HS.out.c 2 0 (v := .int .i64 d) rfl rfl, HS.out.c 2 1 (v := .int .i64 4) rfl rfl⟩ (fun hHeld => ?_)
      clear hK K
      refine run_d rfl (fun K hK => ?_)
      refine gc Try.func85 (HSM.out g k5 h5 d 2 _ (HS.out.at (i := 0) rfl) (HX.out.code HS.out (i := 0) rfl) hk5 (by omega) (by omega) (by first | decide | omega) (by first | decide | omega)) rfl rfl ?_
      rintro e_ w1 ⟨y, k6, h6, rfl, hk6, hy, hs⟩
      refine ⟨_, rfl, ?_⟩
      replace HS : Aside0 (Mod _ _ _ [_, _, _]) := sM1 HS 0 [1, 2] rfl hs
      clear hs
      refine gd hK ?_
      clear hK K
      repeat (first | ((with_reducible refine gate_p ?_); refine rp rfl rfl ?_) | ((with_reducible refine gate_t ?_); refine rt rfl rfl hHeld ?_))
      refine run_done ?_
      clear hHeld
      go_wp2
      refine bodyPost_ret (results_four (by rfl) _ _) rfl ?_
      exact ⟨_, _, v, y, rfl, by omega, by omega, by omega, by omega, Nat.le_trans hv (by decide), Nat.le_trans hy (by decide), (HS.out.sel [] (by decide)).below⟩
    · have hu0 : (u == 0) = false := by simpa using h0
      by_cases h1_ : u = 1
      · have hu1 : (u == 1) = true := by rw [h1_]; rfl
        clear h0 h1_
        go_wp2_with (first | ((with_reducible refine gate_dst (N := 29) rfl ?_); refine wpList_stp (fun K hK => ?_); refine stp_lit (Kd.int .i64) rfl 2 (by rfl) HS (xs := [0, 6]) (inner := [.int .i64 0, .int .i64 6]) (by first | (go_simp; done) | (go_simp; rfl)) (fun W base ok => reps_ints W base ok _) (by simp) ?_; clear HS; intro A_p c_p w1 HS; refine hK _ _ ?_; clear hK K) | (go_at_call 74; refine (HP.out g k2 h2 A_p c_p 0 6 _ (HS.out.at (i := 1) rfl) (HX.out.code HS.out (i := 1) rfl) hk2 (HS.out.at (i := 0) rfl) (fun q h1 h2 => HS.out.disj2 (i := 0) (j := 1) rfl rfl (by decide) q h1 h2)).mono ?_; rintro e_ w1 ⟨d2, k3, h3, rfl, hk3, hq, hs⟩; replace HS : Aside0 (Mod _ _ _ [_, _, _]) := sM1 HS 1 [0, 2] rfl hs; clear hs; obtain ⟨hq0, hq1⟩ : 0 ≤ d2 ∧ d2 ≤ 6 := (by simp only [List.mem_cons, List.not_mem_nil, or_false] at hq; omega); clear hq))
        replace HS := sD HS
        refine ps (.p 0 (.p 1 (.p 2 (.p 3 (.p 5 (.p 9 (.p 10 (.p 12 (.t 4 (.t 6 (.p 7 (.t 11 (.t 13 (.p 14 (.e 8 (.d 15 (.p 16 (.p 17 (.p 18 (.p 19 .done)))))))))))))))))))) (fun w' => w'.cell? ⟨g_x, 0, none⟩ = some (.int .i64 d) ∧ w'.cell? ⟨g_x, 1, none⟩ = some (.int .i64 4)) [15] ⟨HS.out.c 2 0 (v := .int .i64 d) rfl rfl, HS.out.c 2 1 (v := .int .i64 4) rfl rfl⟩ (fun hHeld => ?_)
        repeat (first | ((with_reducible refine gate_p ?_); refine rp rfl rfl ?_) | ((with_reducible refine gate_t ?_); refine rt rfl rfl hHeld ?_))
        refine run_e rfl (fun K hK => ?_)
        refine gc Try.func85 (HSM.out g k3 h3 d 3 _ (HS.out.at (i := 0) rfl) (HX.out.code HS.out (i := 0) rfl) hk3 (by omega) (by omega) (by first | decide | omega) (by first | decide | omega)) rfl rfl ?_
        rintro e_ w1 ⟨v, k5, h5, rfl, hk5, hv, hs⟩
        refine ⟨_, rfl, ?_⟩
        replace HS : Aside0 (Mod _ _ _ [_, _, _]) := sM1 HS 0 [1, 2] rfl hs
        clear hs
        refine ge hK ⟨HS.out.c 2 0 (v := .int .i64 d) rfl rfl, HS.out.c 2 1 (v := .int .i64 4) rfl rfl⟩ (fun hHeld => ?_)
        clear hK K
        refine run_d rfl (fun K hK => ?_)
        refine gc Try.func85 (HSM.out g k5 h5 d 2 _ (HS.out.at (i := 0) rfl) (HX.out.code HS.out (i := 0) rfl) hk5 (by omega) (by omega) (by first | decide | omega) (by first | decide | omega)) rfl rfl ?_
        rintro e_ w1 ⟨y, k6, h6, rfl, hk6, hy, hs⟩
        refine ⟨_, rfl, ?_⟩
        replace HS : Aside0 (Mod _ _ _ [_, _, _]) := sM1 HS 0 [1, 2] rfl hs
        clear hs
        refine gd hK ?_
        clear hK K
        repeat (first | ((with_reducible refine gate_p ?_); refine rp rfl rfl ?_) | ((with_reducible refine gate_t ?_); refine rt rfl rfl hHeld ?_))
        refine run_done ?_
        clear hHeld
        go_wp2
        refine bodyPost_ret (results_four (by rfl) _ _) rfl ?_
        exact ⟨_, _, v, y, rfl, by omega, by omega, by omega, by omega, Nat.le_trans hv (by decide), Nat.le_trans hy (by decide), (HS.out.sel [] (by decide)).below⟩
      · have hu1 : (u == 1) = false := by simpa using h1_
        clear h0 h1_
        go_wp2
        replace HS := sD HS
        refine ps (.p 0 (.p 1 (.p 2 (.p 3 (.p 5 (.p 9 (.p 10 (.p 12 (.t 4 (.t 6 (.p 7 (.t 11 (.t 13 (.p 14 (.e 8 (.d 15 (.p 16 (.p 17 (.p 18 (.p 19 .done)))))))))))))))))))) (fun w' => w'.cell? ⟨g_x, 0, none⟩ = some (.int .i64 d) ∧ w'.cell? ⟨g_x, 1, none⟩ = some (.int .i64 4)) [15] ⟨HS.out.c 1 0 (v := .int .i64 d) rfl rfl, HS.out.c 1 1 (v := .int .i64 4) rfl rfl⟩ (fun hHeld => ?_)
        repeat (first | ((with_reducible refine gate_p ?_); refine rp rfl rfl ?_) | ((with_reducible refine gate_t ?_); refine rt rfl rfl hHeld ?_))
        refine run_e rfl (fun K hK => ?_)
        refine gc Try.func85 (HSM.out g k2 h2 d 3 _ (HS.out.at (i := 0) rfl) (HX.out.code HS.out (i := 0) rfl) hk2 (by omega) (by omega) (by first | decide | omega) (by first | decide | omega)) rfl rfl ?_
        rintro e_ w1 ⟨v, k5, h5, rfl, hk5, hv, hs⟩
        refine ⟨_, rfl, ?_⟩
        replace HS : Aside0 (Mod _ _ _ [_, _]) := sM1 HS 0 [1] rfl hs
        clear hs
        refine ge hK ⟨HS.out.c 1 0 (v := .int .i64 d) rfl rfl, HS.out.c 1 1 (v := .int .i64 4) rfl rfl⟩ (fun hHeld => ?_)
        clear hK K
        refine run_d rfl (fun K hK => ?_)
        refine gc Try.func85 (HSM.out g k5 h5 d 2 _ (HS.out.at (i := 0) rfl) (HX.out.code HS.out (i := 0) rfl) hk5 (by omega) (by omega) (by first | decide | omega) (by first | decide | omega)) rfl rfl ?_
        rintro e_ w1 ⟨y, k6, h6, rfl, hk6, hy, hs⟩
        refine ⟨_, rfl, ?_⟩
        replace HS : Aside0 (Mod _ _ _ [_, _]) := sM1 HS 0 [1] rfl hs
        clear hs
        refine gd hK ?_
        clear hK K
        repeat (first | ((with_reducible refine gate_p ?_); refine rp rfl rfl ?_) | ((with_reducible refine gate_t ?_); refine rt rfl rfl hHeld ?_))
        refine run_done ?_
        clear hHeld
        go_wp2
        refine bodyPost_ret (results_four (by rfl) _ _) rfl ?_
        exact ⟨_, _, v, y, rfl, by omega, by omega, by omega, by omega, Nat.le_trans hv (by decide), Nat.le_trans hy (by decide), (HS.out.sel [] (by decide)).below⟩
  · subst e_
    by_cases h0 : u = 0
    · have hu0 : (u == 0) = true := by rw [h0]; rfl
      clear h0
      go_wp2_with (first | ((with_reducible refine gate_dst (N := 24) rfl ?_); refine wpList_stp (fun K hK => ?_); refine stp_lit (Kd.int .i64) rfl 2 (by rfl) HS (xs := [0, 4]) (inner := [.int .i64 0, .int .i64 4]) (by first | (go_simp; done) | (go_simp; rfl)) (fun W base ok => reps_ints W base ok _) (by simp) ?_; clear HS; intro A_p c_p w1 HS; refine hK _ _ ?_; clear hK K) | (go_at_call 74; refine (HP.out g k2 h2 A_p c_p 0 4 _ (HS.out.at (i := 1) rfl) (HX.out.code HS.out (i := 1) rfl) hk2 (HS.out.at (i := 0) rfl) (fun q h1 h2 => HS.out.disj2 (i := 0) (j := 1) rfl rfl (by decide) q h1 h2)).mono ?_; rintro e_ w1 ⟨d2, k3, h3, rfl, hk3, hq, hs⟩; replace HS : Aside0 (Mod _ _ _ [_, _, _]) := sM1 HS 1 [0, 2] rfl hs; clear hs; obtain ⟨hq0, hq1⟩ : 0 ≤ d2 ∧ d2 ≤ 4 := (by simp only [List.mem_cons, List.not_mem_nil, or_false] at hq; omega); clear hq))
      replace HS := sD HS
      refine ps (.p 0 (.p 1 (.p 2 (.p 3 (.p 5 (.p 9 (.p 10 (.p 12 (.t 4 (.t 6 (.p 7 (.t 11 (.t 13 (.p 14 (.e 8 (.d 15 (.p 16 (.p 17 (.p 18 (.p 19 .done)))))))))))))))))))) (fun w' => w'.cell? ⟨g_x, 0, none⟩ = some (.int .i64 d) ∧ w'.cell? ⟨g_x, 1, none⟩ = some (.int .i64 5)) [15] ⟨HS.out.c 2 0 (v := .int .i64 d) rfl rfl, HS.out.c 2 1 (v := .int .i64 5) rfl rfl⟩ (fun hHeld => ?_)
      repeat (first | ((with_reducible refine gate_p ?_); refine rp rfl rfl ?_) | ((with_reducible refine gate_t ?_); refine rt rfl rfl hHeld ?_))
      refine run_e rfl (fun K hK => ?_)
      refine gc Try.func85 (HSM.out g k3 h3 d 3 _ (HS.out.at (i := 0) rfl) (HX.out.code HS.out (i := 0) rfl) hk3 (by omega) (by omega) (by first | decide | omega) (by first | decide | omega)) rfl rfl ?_
      rintro e_ w1 ⟨v, k5, h5, rfl, hk5, hv, hs⟩
      refine ⟨_, rfl, ?_⟩
      replace HS : Aside0 (Mod _ _ _ [_, _, _]) := sM1 HS 0 [1, 2] rfl hs
      clear hs
      refine ge hK ⟨HS.out.c 2 0 (v := .int .i64 d) rfl rfl, HS.out.c 2 1 (v := .int .i64 5) rfl rfl⟩ (fun hHeld => ?_)
      clear hK K
      refine run_d rfl (fun K hK => ?_)
      refine gc Try.func85 (HSM.out g k5 h5 d 2 _ (HS.out.at (i := 0) rfl) (HX.out.code HS.out (i := 0) rfl) hk5 (by omega) (by omega) (by first | decide | omega) (by first | decide | omega)) rfl rfl ?_
      rintro e_ w1 ⟨y, k6, h6, rfl, hk6, hy, hs⟩
      refine ⟨_, rfl, ?_⟩
      replace HS : Aside0 (Mod _ _ _ [_, _, _]) := sM1 HS 0 [1, 2] rfl hs
      clear hs
      refine gd hK ?_
      clear hK K
      repeat (first | ((with_reducible refine gate_p ?_); refine rp rfl rfl ?_) | ((with_reducible refine gate_t ?_); refine rt rfl rfl hHeld ?_))
      refine run_done ?_
      clear hHeld
      go_wp2
      refine bodyPost_ret (results_four (by rfl) _ _) rfl ?_
      exact ⟨_, _, v, y, rfl, by omega, by omega, by omega, by omega, Nat.le_trans hv (by decide), Nat.le_trans hy (by decide), (HS.out.sel [] (by decide)).below⟩
    · have hu0 : (u == 0) = false := by simpa using h0
      by_cases h1_ : u = 1
      · have hu1 : (u == 1) = true := by rw [h1_]; rfl
        clear h0 h1_
        go_wp2_with (first | ((with_reducible refine gate_dst (N := 29) rfl ?_); refine wpList_stp (fun K hK => ?_); refine stp_lit (Kd.int .i64) rfl 2 (by rfl) HS (xs := [0, 6]) (inner := [.int .i64 0, .int .i64 6]) (by first | (go_simp; done) | (go_simp; rfl)) (fun W base ok => reps_ints W base ok _) (by simp) ?_; clear HS; intro A_p c_p w1 HS; refine hK _ _ ?_; clear hK K) | (go_at_call 74; refine (HP.out g k2 h2 A_p c_p 0 6 _ (HS.out.at (i := 1) rfl) (HX.out.code HS.out (i := 1) rfl) hk2 (HS.out.at (i := 0) rfl) (fun q h1 h2 => HS.out.disj2 (i := 0) (j := 1) rfl rfl (by decide) q h1 h2)).mono ?_; rintro e_ w1 ⟨d2, k3, h3, rfl, hk3, hq, hs⟩; replace HS : Aside0 (Mod _ _ _ [_, _, _]) := sM1 HS 1 [0, 2] rfl hs; clear hs; obtain ⟨hq0, hq1⟩ : 0 ≤ d2 ∧ d2 ≤ 6 := (by simp only [List.mem_cons, List.not_mem_nil, or_false] at hq; omega); clear hq))
        replace HS := sD HS
        refine ps (.p 0 (.p 1 (.p 2 (.p 3 (.p 5 (.p 9 (.p 10 (.p 12 (.t 4 (.t 6 (.p 7 (.t 11 (.t 13 (.p 14 (.e 8 (.d 15 (.p 16 (.p 17 (.p 18 (.p 19 .done)))))))))))))))))))) (fun w' => w'.cell? ⟨g_x, 0, none⟩ = some (.int .i64 d) ∧ w'.cell? ⟨g_x, 1, none⟩ = some (.int .i64 5)) [15] ⟨HS.out.c 2 0 (v := .int .i64 d) rfl rfl, HS.out.c 2 1 (v := .int .i64 5) rfl rfl⟩ (fun hHeld => ?_)
        repeat (first | ((with_reducible refine gate_p ?_); refine rp rfl rfl ?_) | ((with_reducible refine gate_t ?_); refine rt rfl rfl hHeld ?_))
        refine run_e rfl (fun K hK => ?_)
        refine gc Try.func85 (HSM.out g k3 h3 d 3 _ (HS.out.at (i := 0) rfl) (HX.out.code HS.out (i := 0) rfl) hk3 (by omega) (by omega) (by first | decide | omega) (by first | decide | omega)) rfl rfl ?_
        rintro e_ w1 ⟨v, k5, h5, rfl, hk5, hv, hs⟩
        refine ⟨_, rfl, ?_⟩
        replace HS : Aside0 (Mod _ _ _ [_, _, _]) := sM1 HS 0 [1, 2] rfl hs
        clear hs
        refine ge hK ⟨HS.out.c 2 0 (v := .int .i64 d) rfl rfl, HS.out.c 2 1 (v := .int .i64 5) rfl rfl⟩ (fun hHeld => ?_)
        clear hK K
        refine run_d rfl (fun K hK => ?_)
        refine gc Try.func85 (HSM.out g k5 h5 d 2 _ (HS.out.at (i := 0) rfl) (HX.out.code HS.out (i := 0) rfl) hk5 (by omega) (by omega) (by first | decide | omega) (by first | decide | omega)) rfl rfl ?_
        rintro e_ w1 ⟨y, k6, h6, rfl, hk6, hy, hs⟩
        refine ⟨_, rfl, ?_⟩
        replace HS : Aside0 (Mod _ _ _ [_, _, _]) := sM1 HS 0 [1, 2] rfl hs
        clear hs
        refine gd hK ?_
        clear hK K
        repeat (first | ((with_reducible refine gate_p ?_); refine rp rfl rfl ?_) | ((with_reducible refine gate_t ?_); refine rt rfl rfl hHeld ?_))
        refine run_done ?_
        clear hHeld
        go_wp2
        refine bodyPost_ret (results_four (by rfl) _ _) rfl ?_
        exact ⟨_, _, v, y, rfl, by omega, by omega, by omega, by omega, Nat.le_trans hv (by decide), Nat.le_trans hy (by decide), (HS.out.sel [] (by decide)).below⟩
      · have hu1 : (u == 1) = false := by simpa using h1_
        clear h0 h1_
        go_wp2
        replace HS := sD HS
        refine ps (.p 0 (.p 1 (.p 2 (.p 3 (.p 5 (.p 9 (.p 10 (.p 12 (.t 4 (.t 6 (.p 7 (.t 11 (.t 13 (.p 14 (.e 8 (.d 15 (.p 16 (.p 17 (.p 18 (.p 19 .done)))))))))))))))))))) (fun w' => w'.cell? ⟨g_x, 0, none⟩ = some (.int .i64 d) ∧ w'.cell? ⟨g_x, 1, none⟩ = some (.int .i64 5)) [15] ⟨HS.out.c 1 0 (v := .int .i64 d) rfl rfl, HS.out.c 1 1 (v := .int .i64 5) rfl rfl⟩ (fun hHeld => ?_)
        repeat (first | ((with_reducible refine gate_p ?_); refine rp rfl rfl ?_) | ((with_reducible refine gate_t ?_); refine rt rfl rfl hHeld ?_))
        refine run_e rfl (fun K hK => ?_)
        refine gc Try.func85 (HSM.out g k2 h2 d 3 _ (HS.out.at (i := 0) rfl) (HX.out.code HS.out (i := 0) rfl) hk2 (by omega) (by omega) (by first | decide | omega) (by first | decide | omega)) rfl rfl ?_
        rintro e_ w1 ⟨v, k5, h5, rfl, hk5, hv, hs⟩
        refine ⟨_, rfl, ?_⟩
        replace HS : Aside0 (Mod _ _ _ [_, _]) := sM1 HS 0 [1] rfl hs
        clear hs
        refine ge hK ⟨HS.out.c 1 0 (v := .int .i64 d) rfl rfl, HS.out.c 1 1 (v := .int .i64 5) rfl rfl⟩ (fun hHeld => ?_)
        clear hK K
        refine run_d rfl (fun K hK => ?_)
        refine gc Try.func85 (HSM.out g k5 h5 d 2 _ (HS.out.at (i := 0) rfl) (HX.out.code HS.out (i := 0) rfl) hk5 (by omega) (by omega) (by first | decide | omega) (by first | decide | omega)) rfl rfl ?_
        rintro e_ w1 ⟨y, k6, h6, rfl, hk6, hy, hs⟩
        refine ⟨_, rfl, ?_⟩
        replace HS : Aside0 (Mod _ _ _ [_, _]) := sM1 HS 0 [1] rfl hs
        clear hs
        refine gd hK ?_
        clear hK K
        repeat (first | ((with_reducible refine gate_p ?_); refine rp rfl rfl ?_) | ((with_reducible refine gate_t ?_); refine rt rfl rfl hHeld ?_))
        refine run_done ?_
        clear hHeld
        go_wp2
        refine bodyPost_ret (results_four (by rfl) _ _) rfl ?_
        exact ⟨_, _, v, y, rfl, by omega, by omega, by omega, by omega, Nat.le_trans hv (by decide), Nat.le_trans hy (by decide), (HS.out.sel [] (by decide)).below⟩
end Go.Proofs.Ytibjkjhpfmmjoaa.H



namespace Go.Proofs.Ytibjkjhpfmmjoaa.H
open Go.RowKit Go.Proofs.YtibjkjhpfmmjoaaW.PrintWords Go.Proofs.YtibjkjhpfmmjoaaW.PrintLast Go.Proofs.YtibjkjhpfmmjoaaW.PrintMore Go.Proofs.Ytibjkjhpfmmjoaa.M
attribute [local go_sem] max2_int min2_int max_two min_two max_three min_three max_four min_four
set_option linter.unusedVariables false
set_option linter.unusedSimpArgs false
set_option maxRecDepth 100000
set_option maxHeartbeats 32000000 in
theorem specDrawShuffleNumber (A : Option Addr) (c : Nat) (xs : List Int) (w : World) (hx : Bytes w A xs) :
    Calls Try.prog 48 #[.slice A xs.length c] w fun e w' => ∃ (d : Int) (v y z : ByteArray), e = .returned (.tuple #[.int .i64 d, .string v, .string y, .string z]) ∧ v.size ≤ 13 ∧ y.size ≤ 13 ∧ z.size ≤ 26 ∧ Below w.heap.size w w' := by
  have HX := Aside0.mk hx
  have hl := hx.l
  have HN := Aside0.mk (fun g k h n W k1 k2 hk h1 => specNext g A c xs.length k h n W k1 k2 hk hl h1)
  have HP := Aside0.mk (fun g k h B b W k1 k2 hk k3 k4 => specPick g A c xs.length k h B b [1, 2, 2, 3, 2, 4] W k1 k2 hk hl k3 k4 (by decide) (by decide))
  have HSM := Aside0.mk (fun g k h (d n : Int) W k1 k2 hk h1 h2 h3 h4 => specSmallI g A c xs.length k h d n W k1 k2 hk hl h1 h2 h3 h4)
  have HS := Aside0.mk (Sep.refl w)
  clear hx
  go_enter Try.func48, Try.ntmps48
  go_upto_region 3 with (first | (go_at_call 51; refine (specFrom A c xs _ (HS.out.oldC HX.out.r) HX.out.l).mono ?_; rintro e_ w1 ⟨g, h, rfl, hs⟩; replace HS := sN1 HS hs; clear hs) | ((with_reducible refine gate_dst (N := 16) rfl ?_); refine wpList_stp (fun K hK => ?_); refine stp_lit (Kd.int .i64) rfl 2 (by rfl) HS (xs := [1, 2, 2, 3, 2, 4]) (inner := [.int .i64 1, .int .i64 2, .int .i64 2, .int .i64 3, .int .i64 2, .int .i64 4]) (by first | (go_simp; done) | (go_simp; rfl)) (fun W base ok => reps_ints W base ok _) (by simp) ?_; clear HS; intro A_l c_l w1 HS; refine hK _ _ ?_; clear hK K) | (go_at_call 74; refine (HP.out g 0 h A_l c_l _ (HS.out.at (i := 1) rfl) (HX.out.code HS.out (i := 1) rfl) (Nat.zero_le _) (HS.out.at (i := 0) rfl) (fun q h1 h2 => HS.out.disj (i := 0) (j := 1) rfl rfl (by decide) q h1 h2)).mono ?_; rintro e_ w1 ⟨r, k1, h1, rfl, hk1, hr, hs⟩; replace HS : Aside0 (Mod _ _ _ [_, _]) := sM1 HS 1 [0] rfl hs; clear hs; obtain ⟨hr0, hr4⟩ : 1 ≤ r ∧ r ≤ 4 := (by simp only [List.mem_cons, List.not_mem_nil, or_false] at hr; omega); clear hr))
  replace HS : Aside0 (Mod _ _ _ [_]) := sX HS [0]
  obtain rfl | rfl | rfl | rfl : r = 1 ∨ r = 2 ∨ r = 3 ∨ r = 4 := by omega
  all_goals
    have tk1_ : True := trivial
    go_wp2_with (first | (go_at_call 85; clear tk1_; refine (HSM.out g k1 h1 _ 4 _ (HS.out.at (i := 0) rfl) (HX.out.code HS.out (i := 0) rfl) hk1 (by first | decide | omega) (by first | decide | omega) (by decide) (by decide)).mono ?_; rintro e_ w1 ⟨v, k2, h2, rfl, hk2, hv, hs⟩; replace HS : Aside0 (Mod _ _ _ [_]) := sM1 HS 0 [] rfl hs; clear hs) | (go_at_call 85; refine (HSM.out g k2 h2 _ 4 _ (HS.out.at (i := 0) rfl) (HX.out.code HS.out (i := 0) rfl) hk2 (by first | decide | omega) (by first | decide | omega) (by decide) (by decide)).mono ?_; rintro e_ w1 ⟨y, k3, h3, rfl, hk3, hy, hs⟩; replace HS : Aside0 (Mod _ _ _ [_]) := sM1 HS 0 [] rfl hs; clear hs))
    have hv13 : v.size ≤ 13 := hv
    have hy13 : y.size ≤ 13 := hy
    clear hv hy
    go_loopw [10, 11, 12] (fun x a b w' => ∃ (i k : Nat) (t : ByteArray) (k1 : Nat) (h1 : Int), x = .string t ∧ a = .int .i64 (i : Int) ∧ b = .int .i64 (k : Int) ∧ i ≤ v.size ∧ k ≤ y.size ∧ t.size ≤ i + k ∧ k1 ≤ xs.length ∧ Aside0 (Mod w w' No [srcB g A xs.length c k1 h1])) (fun _ a b _ => v.size + y.size - (intOf a).toNat - (intOf b).toNat)
    case atStart => exact ⟨0, 0, ⟨#[]⟩, k3, h3, rfl, rfl, rfl, Nat.zero_le _, Nat.zero_le _, Nat.le_refl _, hk3, HS⟩
    case round =>
      clear HS
      obtain ⟨i, k, t, k1, h1, rfl, rfl, rfl, hi, hk, ht, hk1, HS⟩ := hrel
      by_cases hlt : i < v.size
      · have HI1 := Aside0.mk (show wrap64 ((i : Int) + 1) = ((i + 1 : Nat) : Int) by rw [wrap_id (by omega) (by omega)]; rfl)
        have a0 : (i : Int) < (v.size : Int) := by omega
        have a1 : (i : Int) + 1 ≤ (v.size : Int) := by omega
        have a2 : (0 : Int) ≤ (i : Int) + 1 := by omega
        have a3 : ((i + 1 : Nat) : Int) ≤ (v.size : Int) := by omega
        have a4 : (i : Int) ≤ (i : Int) + 1 := by omega
        have a5 : ¬ (9223372036854775807 < i + 1) := by omega
        by_cases hkq : k = y.size
        · have hkb : ((k : Int) == (y.size : Int)) = true := by rw [hkq]; simp
          clear hkq
          go_wp2
          go_roundw
          case rel => exact ⟨i + 1, k, _, k1, h1, rfl, by go_num, rfl, by omega, by omega, by rw [ByteArray.size_append, ByteArray.size_extract]; omega, hk1, HS⟩
          case measure => simp [intOf]; omega
        · have hkb : ((k : Int) == (y.size : Int)) = false := by rw [beq_eq_false_iff_ne]; omega
          have HK1 := Aside0.mk (show wrap64 ((k : Int) + 1) = ((k + 1 : Nat) : Int) by rw [wrap_id (by omega) (by omega)]; rfl)
          have b1 : (k : Int) + 1 ≤ (y.size : Int) := by omega
          have b2 : (0 : Int) ≤ (k : Int) + 1 := by omega
          have b3 : ((k + 1 : Nat) : Int) ≤ (y.size : Int) := by omega
          have b4 : (k : Int) ≤ (k : Int) + 1 := by omega
          have b5 : ¬ (9223372036854775807 < k + 1) := by omega
          have hkl : k < y.size := by omega
          go_wp2_with (first | (go_at_call 57; refine (HN.out g k1 h1 2 _ (HS.out.at (i := 0) rfl) (HX.out.code HS.out (i := 0) rfl) hk1 (by omega)).mono ?_; rintro e_ w1 ⟨q, k2, h2, rfl, hk2, hr1, hr2, hs⟩; replace HS : Aside0 (Mod _ _ _ [_]) := sM1 HS 0 [] rfl hs; clear hs; clear hr1 hr2; refine Hid.out ?_))
          refine Lib.hid ?_
          by_cases hq0 : q = 0
          · have hqb : (q == 0) = true := by rw [hq0]; rfl
            clear hq0 hkq
            go_wp2
            go_roundw
            case rel => exact ⟨i + 1, k, _, k2, h2, rfl, by go_num, rfl, by omega, by omega, by rw [ByteArray.size_append, ByteArray.size_extract]; omega, hk2, HS⟩
            case measure => simp [intOf]; omega
          · have hqb : (q == 0) = false := by simpa using hq0
            clear hq0 hkq
            go_wp2
            go_roundw
            case rel => exact ⟨i, k + 1, _, k2, h2, rfl, rfl, by go_num, by omega, by omega, by rw [ByteArray.size_append, ByteArray.size_extract]; omega, hk2, HS⟩
            case measure => simp [intOf]; omega
      · have a0 : ¬ ((i : Int) < (v.size : Int)) := by omega
        by_cases hkl : k < y.size
        · have hkb : ((k : Int) == (y.size : Int)) = false := by rw [beq_eq_false_iff_ne]; omega
          have b0 : (k : Int) < (y.size : Int) := by omega
          have b1 : (k : Int) + 1 ≤ (y.size : Int) := by omega
          have b2 : (0 : Int) ≤ (k : Int) + 1 := by omega
          have b3 : ((k + 1 : Nat) : Int) ≤ (y.size : Int) := by omega
          have b4 : (k : Int) ≤ (k : Int) + 1 := by omega
          have b5 : ¬ (9223372036854775807 < k + 1) := by omega
          go_wp2
          go_roundw
          case rel => exact ⟨i, k + 1, _, k1, h1, rfl, rfl, by go_num, by omega, by omega, by rw [ByteArray.size_append, ByteArray.size_extract]; omega, hk1, HS⟩
          case measure => simp [intOf]; omega
        · have b0 : ¬ ((k : Int) < (y.size : Int)) := by omega
          go_wp2_with (first | (go_at_call 57; refine (HN.out g k1 h1 4 _ (HS.out.at (i := 0) rfl) (HX.out.code HS.out (i := 0) rfl) hk1 (by omega)).mono ?_; rintro e_ w1 ⟨q, k2, h2, rfl, hk2, hr1, hr2, hs⟩; replace HS : Aside0 (Mod _ _ _ [_]) := sM1 HS 0 [] rfl hs; clear hs; clear hr1 hr2; refine Hid.out ?_))
          refine Lib.hid ?_
          by_cases hq0 : q = 0
          · have hqb : (q == 0) = true := by rw [hq0]; rfl
            clear hq0
            go_wp2_with (first | (go_at_call 85; refine (HSM.out g k2 h2 _ 8 _ (HS.out.at (i := 0) rfl) (HX.out.code HS.out (i := 0) rfl) hk2 (by first | decide | omega) (by first | decide | omega) (by decide) (by decide)).mono ?_; rintro e_ w1 ⟨z, k4, h4, rfl, hk4, hz, hs⟩; replace HS : Aside0 (Mod _ _ _ [_]) := sM1 HS 0 [] rfl hs; clear hs))
            refine bodyPost_ret (results_four (by rfl) _ _) rfl ?_
            exact ⟨_, v, y, z, rfl, hv13, hy13, Nat.le_trans hz (by decide), (HS.out.sel [] (by decide)).below⟩
          · have hqb : (q == 0) = false := by simpa using hq0
            clear hq0
            go_wp2
            refine bodyPost_ret (results_four (by rfl) _ _) rfl ?_
            exact ⟨_, v, y, t, rfl, hv13, hy13, by omega, (HS.out.sel [] (by decide)).below⟩
end Go.Proofs.Ytibjkjhpfmmjoaa.H



