/- Tables: sums, multiples. Conditions: the bounds that stand in each statement. -/
import Derived.Test.YtaheikponfmdiaaKTable4
namespace Go.Proofs.Ytaheikponfmdiaa.H
open Go.RowKit Go.Proofs.YtaheikponfmdiaaW.PrintWords Go.Proofs.YtaheikponfmdiaaW.PrintLast Go.Proofs.YtaheikponfmdiaaW.PrintMore Go.Proofs.Ytaheikponfmdiaa.M
attribute [local go_sem] max2_int min2_int max_two min_two max_three min_three max_four min_four
set_option linter.unusedVariables false
set_option linter.unusedSimpArgs false
set_option maxRecDepth 100000
theorem stp_put_ix {P : Program} {ops : Array Oper} {o : Oper} {a : Act} {Q : Exit → Act → World → Prop} {Kc : Act → World → Prop} {w W : World} {S : Nat → Prop} {L : List As}
    (hw : Region.wanted o (yielded ops a.tmps) = true) (hN : o.dst = none) {ty : TypeId} {x y : Operand} (ho : o.op = .store ty x y) (HS : Aside0 (Mod w W S L)) (i : Nat) {v d n k : Nat} {f : ByteArray → Fr} (hi : L[i]? = some (tV v d n f)) (s : ByteArray) (hd : d ≤ 9) (hk : (allW d n)[k]? = some s) (c : Fr)
    (hx : a.eval x = .pointer (some ⟨v, k * 2, none⟩)) (hy : a.eval y = .agg #[.int .i64 c.1, .int .i64 c.2]) (hsz : (P.info? ty).map (·.size) = some 2) (h : ∀ w1, Aside0 (Mod w w1 S (L.set i (tV v d n (upd f s c)))) → Kc a w1) : Stp P ops Q o a W Kc :=
  stp_put_tab hw hN ho HS i hi s hd (num_at hd hk).1 (num_at hd hk).2.1 (num_at hd hk).2.2 c hx hy hsz h
set_option maxHeartbeats 8000000 in
theorem implScaled (g v d n : Nat) (bad : Bool) (f : ByteArray → Fr) (a : Fr) (w : World) (hl : lev d n = true) (ht : (tS g v d n (nW d n) bad).I w) (hv : (tV v d n f).I w) (hf : good f) (ha : fr a = true) :
    Calls Try.prog 181 #[.pointer (some ⟨g, 0, none⟩), .agg #[.int .i64 a.1, .int .i64 a.2]] w fun e w' =>
      ∃ g' v', e = .returned (.pointer (some ⟨g', 0, none⟩)) ∧ Sep w w' [tS g' v' d n (nW d n) (mapT d n (fun s => mul (f s) a) bad (nW d n)).2, tV v' d n (mapT d n (fun s => mul (f s) a) bad (nW d n)).1] := by
  obtain ⟨hd1, hd3, hn1, hn5⟩ := lev_bd hl
  have hNl := nW_le hl
  have HT := Aside0.mk ht
  have HV := Aside0.mk hv
  have HL := Aside0.mk hl
  have HF := Aside0.mk hf
  have HA := Aside0.mk ha
  have HG := Aside0.mk (fun k (h : k < nW d n) => (⟨_, List.getElem?_eq_getElem h⟩ : ∃ s, (allW d n)[k]? = some s))
  clear ht hv hl hf ha
  have CK := fun g W h => implLike g v d n (nW d n) bad W HL.out h
  have HCK := Aside0.mk CK
  clear CK
  obtain ⟨N, hN⟩ : ∃ N, N = nW d n := ⟨_, rfl⟩
  rw [← hN] at HT HG hNl HCK
  rw [← hN]
  clear hN
  obtain ⟨h, hh⟩ : ∃ h : ByteArray → Option Fr, h = fun s => mul (f s) a := ⟨_, rfl⟩
  rw [← hh]
  have HH := Aside0.mk hh
  clear hh
  have HS := Aside0.mk (Sep.refl w)
  go_enter Try.func181, Try.ntmps181
  go_wp2_with (first | ((with_reducible refine gate_dst (N := 3) rfl ?_); refine bxL 35 #[.int .i64 a.1, .int .i64 a.2] HS ?_; clear HS; intro g_b w1 hg_b HS) | (go_at_call 165; refine (HCK.out _ _ (HS.out.oldI HT.out)).mono ?_; rintro e_ w1 ⟨g', v', rfl, hs⟩; replace HS := sN2 HS hs; clear hs; have f1_ := bx_c (HS.out.oldI HT.out) 3 (v := .bool bad) rfl) | ((with_reducible refine gate_store (t := 4) (p := 16) rfl ?_); refine stL HS 0 3 #[.int .i64 (d : Int), .int .i64 (n : Int), .slice (some ⟨v', 0, none⟩) N N, (.bool bad)] rfl rfl rfl rfl rfl ?_; clear HS f1_; intro w1 HS; have f1_ := bx_c (HS.out.oldI HT.out) 2 (v := .slice (some ⟨v, 0, none⟩) N N) rfl))
  go_loopw [22] (fun q w' => ∃ (i : Nat) (F : Tb), i ≤ N ∧ q = .int .i64 (i : Int) ∧ Aside0 (F = mapT d n h bad i) ∧ Aside0 (Mod w w' No [bx g' 132 #[.int .i64 (d : Int), .int .i64 (n : Int), .slice (some ⟨v', 0, none⟩) N N, .bool F.2], tV v' d n F.1, bx g_b 35 #[.int .i64 a.1, .int .i64 a.2]])) (fun q _ => N - (intOf q).toNat)
  case atStart => exact ⟨0, ((fun _ => (0, 1)), bad), by omega, rfl, ⟨rfl⟩, HS⟩
  case round =>
    clear HS
    obtain ⟨i, F, hi, rfl, HM, HS⟩ := hrel
    by_cases hlt : i < N
    · obtain ⟨s, hs⟩ := HG.out i hlt
      have HE := Aside0.mk hs
      have HP := Aside0.mk (fun W => (congrFun HH.out s) ▸ implTimesF (f s) a W (HF.out s) HA.out)
      clear hs
      have hq0 : (0 : Int) ≤ i := by omega
      have f1_ := (tab_ix (HS.out.oldI HV.out) HE.out).1
      have f2_ := (tab_ix (HS.out.oldI HV.out) HE.out).2
      go_wp2_with (first | ((with_reducible refine gate_dst (N := 7) rfl ?_); refine bxL 35 #[(.int .i64 0), (.int .i64 0)] HS ?_; clear HS f1_ f2_; intro g_y w1 hg_y HS) | ((with_reducible refine gate_store (t := 35) (p := 7) rfl ?_); refine stL HS 0 0 #[.int .i64 (f s).1, .int .i64 (f s).2] rfl rfl rfl rfl rfl ?_; clear HS; intro w1 HS))
      replace HS := sD HS
      refine ps (.p 0 (.p 1 (.p 2 (.p 4 (.p 5 (.t 3 (.t 6 (.t 7 (.e 8 (.p 9 (.p 10 (.e 11 (.p 12 (.d 13 .done)))))))))))))) (fun w' => w'.cell? ⟨g', 2, none⟩ = some (.slice (some ⟨v', 0, none⟩) N N) ∧ w'.cell? ⟨g_y, 0, none⟩ = some (.int .i64 (f s).1) ∧ w'.cell? ⟨g_y, 1, none⟩ = some (.int .i64 (f s).2) ∧ w'.cell? ⟨g_b, 0, none⟩ = some (.int .i64 a.1) ∧ w'.cell? ⟨g_b, 1, none⟩ = some (.int .i64 a.2)) [13] ⟨HS.out.c 1 2 (v := .slice (some ⟨v', 0, none⟩) N N) rfl rfl, HS.out.c 0 0 (v := .int .i64 (f s).1) rfl rfl, HS.out.c 0 1 (v := .int .i64 (f s).2) rfl rfl, HS.out.c 3 0 (v := .int .i64 a.1) rfl rfl, HS.out.c 3 1 (v := .int .i64 a.2) rfl rfl⟩ (fun hHeld => ?_)
      repeat (first | ((with_reducible refine gate_p ?_); refine rp rfl rfl ?_) | ((with_reducible refine gate_t ?_); refine rt rfl rfl hHeld ?_))
      refine run_e rfl (fun K hK => ?_)
      refine gc Try.func110 (HP.out _) rfl rfl ?_
      rintro e_ w1 ⟨x, y, hxy, rfl, hb⟩
      refine ⟨_, rfl, ?_⟩
      replace HS := sB HS hb
      clear hb
      refine ge hK ⟨HS.out.c 1 2 (v := .slice (some ⟨v', 0, none⟩) N N) rfl rfl, HS.out.c 0 0 (v := .int .i64 (f s).1) rfl rfl, HS.out.c 0 1 (v := .int .i64 (f s).2) rfl rfl, HS.out.c 3 0 (v := .int .i64 a.1) rfl rfl, HS.out.c 3 1 (v := .int .i64 a.2) rfl rfl⟩ (fun hHeld => ?_)
      clear hK K
      repeat (first | ((with_reducible refine gate_p ?_); refine rp rfl rfl ?_) | ((with_reducible refine gate_t ?_); refine rt rfl rfl hHeld ?_))
      refine run_e rfl (fun K hK => ?_)
      refine gc Try.func152 (implCheckO g' v' d n N F.2 (h s) x y hxy _ (HS.out.at (i := 1) rfl)) rfl rfl ?_
      rintro e_ w1 ⟨rfl, hs⟩
      refine ⟨_, rfl, ?_⟩
      replace HS : Aside0 (Mod _ _ _ [_, _, _, _]) := sM1 HS 1 [0, 2, 3] rfl hs
      clear hs
      refine ge hK ⟨HS.out.c 0 2 (v := .slice (some ⟨v', 0, none⟩) N N) rfl rfl, HS.out.c 1 0 (v := .int .i64 (f s).1) rfl rfl, HS.out.c 1 1 (v := .int .i64 (f s).2) rfl rfl, HS.out.c 3 0 (v := .int .i64 a.1) rfl rfl, HS.out.c 3 1 (v := .int .i64 a.2) rfl rfl⟩ (fun hHeld => ?_)
      clear hK K
      repeat (first | ((with_reducible refine gate_p ?_); refine rp rfl rfl ?_) | ((with_reducible refine gate_t ?_); refine rt rfl rfl hHeld ?_))
      refine run_d rfl (fun K hK => ?_)
      refine stp_put_ix (by rfl) rfl rfl HS 2 rfl s (by omega) HE.out (orZ (h s)) rfl rfl (by kernel_rfl) ?_
      clear HS
      intro w1 HS
      simp only [List.set_cons_zero, List.set_cons_succ] at HS
      refine goD hK rfl ?_
      clear hK K
      refine run_done ?_
      clear hHeld
      go_wp2
      replace HS : Aside0 (Mod _ _ _ [_, _, _]) := sX HS [0, 2, 3]
      have n_ := HS.out.sel [0, 1, 2] (by decide)
      simp only [List.filterMap_cons, List.filterMap_nil, List.getElem?_cons_zero, List.getElem?_cons_succ] at n_
      go_roundw
      case rel => exact ⟨i + 1, mapS h F s, by omega, by go_num, ⟨by rw [mapT_succ HE.out, HM.out]⟩, ⟨n_⟩⟩
      case measure => simp [intOf]; omega
    · obtain rfl : i = N := by omega
      go_wp2
      go_ret
      obtain rfl := HM.out
      have n_ := HS.out.sel [0, 1] (by decide)
      simp only [List.filterMap_cons, List.filterMap_nil, List.getElem?_cons_zero, List.getElem?_cons_succ] at n_
      exact ⟨g', v', rfl, n_⟩
set_option maxHeartbeats 8000000 in
theorem implSum_true (g1 v1 g2 v2 d n : Nat) (bad2 : Bool) (f1 f2 : ByteArray → Fr) (w : World) (hl : lev d n = true) (ht1 : (tS g1 v1 d n (nW d n) true).I w) (hv1 : (tV v1 d n f1).I w) (ht2 : (tS g2 v2 d n (nW d n) bad2).I w) (hv2 : (tV v2 d n f2).I w) (hf1 : good f1) (hf2 : good f2) :
    Calls Try.prog 151 #[.pointer (some ⟨g1, 0, none⟩), .pointer (some ⟨g2, 0, none⟩)] w fun e w' =>
      ∃ g' v', e = .returned (.pointer (some ⟨g', 0, none⟩)) ∧ Sep w w' [tS g' v' d n (nW d n) (mapT d n (fun s => add (f1 s) (f2 s)) true (nW d n)).2, tV v' d n (mapT d n (fun s => add (f1 s) (f2 s)) true (nW d n)).1] := by
  obtain ⟨hd1, hd3, hn1, hn5⟩ := lev_bd hl
  have hNl := nW_le hl
  have HT1 := Aside0.mk ht1
  have HV1 := Aside0.mk hv1
  have HT2 := Aside0.mk ht2
  have HV2 := Aside0.mk hv2
  have HL := Aside0.mk hl
  have HF1 := Aside0.mk hf1
  have HF2 := Aside0.mk hf2
  have HG := Aside0.mk (fun k (h : k < nW d n) => (⟨_, List.getElem?_eq_getElem h⟩ : ∃ s, (allW d n)[k]? = some s))
  clear ht1 hv1 ht2 hv2 hl hf1 hf2
  have CK := fun g W h => implLike g v1 d n (nW d n) true W HL.out h
  have HCK := Aside0.mk CK
  clear CK
  obtain ⟨N, hN⟩ : ∃ N, N = nW d n := ⟨_, rfl⟩
  rw [← hN] at HT1 HT2 HG hNl HCK
  rw [← hN]
  clear hN
  obtain ⟨h, hh⟩ : ∃ h : ByteArray → Option Fr, h = fun s => add (f1 s) (f2 s) := ⟨_, rfl⟩
  rw [← hh]
  have HH := Aside0.mk hh
  clear hh
  have HS := Aside0.mk (Sep.refl w)
  go_enter Try.func151, Try.ntmps151
  go_wp2_with (first | (go_at_call 165; refine (HCK.out _ _ (HS.out.oldI HT1.out)).mono ?_; rintro e_ w1 ⟨g', v', rfl, hs⟩; replace HS := sN2 HS hs; clear hs; have f1_ := bx_c (HS.out.oldI HT1.out) 3 (v := .bool true) rfl) | ((with_reducible refine gate_store (t := 4) (p := 22) rfl ?_); refine stL HS 0 3 #[.int .i64 (d : Int), .int .i64 (n : Int), .slice (some ⟨v', 0, none⟩) N N, (.bool true)] rfl rfl rfl rfl rfl ?_; clear HS f1_; intro w1 HS; have f1_ := bx_c (HS.out.oldI HT1.out) 2 (v := .slice (some ⟨v1, 0, none⟩) N N) rfl))
  go_loopw [28] (fun q w' => ∃ (i : Nat) (F : Tb), i ≤ N ∧ q = .int .i64 (i : Int) ∧ Aside0 (F = mapT d n h true i) ∧ Aside0 (Mod w w' No [bx g' 132 #[.int .i64 (d : Int), .int .i64 (n : Int), .slice (some ⟨v', 0, none⟩) N N, .bool F.2], tV v' d n F.1])) (fun q _ => N - (intOf q).toNat)
  case atStart => exact ⟨0, ((fun _ => (0, 1)), true), by omega, rfl, ⟨rfl⟩, HS⟩
  case round =>
    clear HS
    obtain ⟨i, F, hi, rfl, HM, HS⟩ := hrel
    by_cases hlt : i < N
    · obtain ⟨s, hs⟩ := HG.out i hlt
      have HE := Aside0.mk hs
      have HP := Aside0.mk (fun W => (congrFun HH.out s) ▸ implPlusF (f1 s) (f2 s) W (HF1.out s) (HF2.out s))
      clear hs
      have hq0 : (0 : Int) ≤ i := by omega
      have f1_ := (tab_ix (HS.out.oldI HV1.out) HE.out).1
      have f2_ := (tab_ix (HS.out.oldI HV1.out) HE.out).2
      go_wp2_with (first | ((with_reducible refine gate_dst (N := 7) rfl ?_); refine bxL 35 #[(.int .i64 0), (.int .i64 0)] HS ?_; clear HS f1_ f2_; intro g_y w1 hg_y HS) | ((with_reducible refine gate_store (t := 35) (p := 7) rfl ?_); refine stL HS 0 0 #[.int .i64 (f1 s).1, .int .i64 (f1 s).2] rfl rfl rfl rfl rfl ?_; clear HS; intro w1 HS))
      replace HS := sD HS
      refine ps (.p 0 (.p 1 (.p 2 (.p 4 (.p 5 (.p 7 (.p 8 (.p 9 (.p 11 (.t 3 (.t 6 (.t 10 (.p 12 (.t 13 (.e 14 (.p 15 (.p 16 (.e 17 (.p 18 (.d 19 .done)))))))))))))))))))) (fun w' => w'.cell? ⟨g', 2, none⟩ = some (.slice (some ⟨v', 0, none⟩) N N) ∧ w'.cell? ⟨g_y, 0, none⟩ = some (.int .i64 (f1 s).1) ∧ w'.cell? ⟨g_y, 1, none⟩ = some (.int .i64 (f1 s).2) ∧ w'.cell? ⟨g2, 2, none⟩ = some (.slice (some ⟨v2, 0, none⟩) N N) ∧ w'.cell? ⟨v2, i * 2, none⟩ = some (.int .i64 (f2 s).1) ∧ w'.cell? ⟨v2, i * 2 + 1, none⟩ = some (.int .i64 (f2 s).2)) [19] ⟨HS.out.c 1 2 (v := .slice (some ⟨v', 0, none⟩) N N) rfl rfl, HS.out.c 0 0 (v := .int .i64 (f1 s).1) rfl rfl, HS.out.c 0 1 (v := .int .i64 (f1 s).2) rfl rfl, bx_c (HS.out.oldI HT2.out) 2 (v := .slice (some ⟨v2, 0, none⟩) N N) rfl, (tab_ix (HS.out.oldI HV2.out) HE.out).1, (tab_ix (HS.out.oldI HV2.out) HE.out).2⟩ (fun hHeld => ?_)
      repeat (first | ((with_reducible refine gate_p ?_); refine rp rfl rfl ?_) | ((with_reducible refine gate_t ?_); refine rt rfl rfl hHeld ?_))
      refine run_e rfl (fun K hK => ?_)
      refine gc Try.func187 (HP.out _) rfl rfl ?_
      rintro e_ w1 ⟨x, y, hxy, rfl, hb⟩
      refine ⟨_, rfl, ?_⟩
      replace HS := sB HS hb
      clear hb
      refine ge hK ⟨HS.out.c 1 2 (v := .slice (some ⟨v', 0, none⟩) N N) rfl rfl, HS.out.c 0 0 (v := .int .i64 (f1 s).1) rfl rfl, HS.out.c 0 1 (v := .int .i64 (f1 s).2) rfl rfl, bx_c (HS.out.oldI HT2.out) 2 (v := .slice (some ⟨v2, 0, none⟩) N N) rfl, (tab_ix (HS.out.oldI HV2.out) HE.out).1, (tab_ix (HS.out.oldI HV2.out) HE.out).2⟩ (fun hHeld => ?_)
      clear hK K
      repeat (first | ((with_reducible refine gate_p ?_); refine rp rfl rfl ?_) | ((with_reducible refine gate_t ?_); refine rt rfl rfl hHeld ?_))
      refine run_e rfl (fun K hK => ?_)
      refine gc Try.func152 (implCheckO g' v' d n N F.2 (h s) x y hxy _ (HS.out.at (i := 1) rfl)) rfl rfl ?_
      rintro e_ w1 ⟨rfl, hs⟩
      refine ⟨_, rfl, ?_⟩
      replace HS : Aside0 (Mod _ _ _ [_, _, _]) := sM1 HS 1 [0, 2] rfl hs
      clear hs
      refine ge hK ⟨HS.out.c 0 2 (v := .slice (some ⟨v', 0, none⟩) N N) rfl rfl, HS.out.c 1 0 (v := .int .i64 (f1 s).1) rfl rfl, HS.out.c 1 1 (v := .int .i64 (f1 s).2) rfl rfl, bx_c (HS.out.oldI HT2.out) 2 (v := .slice (some ⟨v2, 0, none⟩) N N) rfl, (tab_ix (HS.out.oldI HV2.out) HE.out).1, (tab_ix (HS.out.oldI HV2.out) HE.out).2⟩ (fun hHeld => ?_)
      clear hK K
      repeat (first | ((with_reducible refine gate_p ?_); refine rp rfl rfl ?_) | ((with_reducible refine gate_t ?_); refine rt rfl rfl hHeld ?_))
      refine run_d rfl (fun K hK => ?_)
      refine stp_put_ix (by rfl) rfl rfl HS 2 rfl s (by omega) HE.out (orZ (h s)) rfl rfl (by kernel_rfl) ?_
      clear HS
      intro w1 HS
      simp only [List.set_cons_zero, List.set_cons_succ] at HS
      refine goD hK rfl ?_
      clear hK K
      refine run_done ?_
      clear hHeld
      go_wp2
      replace HS : Aside0 (Mod _ _ _ [_, _]) := sX HS [0, 2]
      go_roundw
      case rel => exact ⟨i + 1, mapS h F s, by omega, by go_num, ⟨by rw [mapT_succ HE.out, HM.out]⟩, HS⟩
      case measure => simp [intOf]; omega
    · obtain rfl : i = N := by omega
      go_wp2
      go_ret
      obtain rfl := HM.out
      exact ⟨g', v', rfl, HS.out⟩
set_option maxHeartbeats 8000000 in
theorem implSum_false (g1 v1 g2 v2 d n : Nat) (bad2 : Bool) (f1 f2 : ByteArray → Fr) (w : World) (hl : lev d n = true) (ht1 : (tS g1 v1 d n (nW d n) false).I w) (hv1 : (tV v1 d n f1).I w) (ht2 : (tS g2 v2 d n (nW d n) bad2).I w) (hv2 : (tV v2 d n f2).I w) (hf1 : good f1) (hf2 : good f2) :
    Calls Try.prog 151 #[.pointer (some ⟨g1, 0, none⟩), .pointer (some ⟨g2, 0, none⟩)] w fun e w' =>
      ∃ g' v', e = .returned (.pointer (some ⟨g', 0, none⟩)) ∧ Sep w w' [tS g' v' d n (nW d n) (mapT d n (fun s => add (f1 s) (f2 s)) bad2 (nW d n)).2, tV v' d n (mapT d n (fun s => add (f1 s) (f2 s)) bad2 (nW d n)).1] := by
  obtain ⟨hd1, hd3, hn1, hn5⟩ := lev_bd hl
  have hNl := nW_le hl
  have HT1 := Aside0.mk ht1
  have HV1 := Aside0.mk hv1
  have HT2 := Aside0.mk ht2
  have HV2 := Aside0.mk hv2
  have HL := Aside0.mk hl
  have HF1 := Aside0.mk hf1
  have HF2 := Aside0.mk hf2
  have HG := Aside0.mk (fun k (h : k < nW d n) => (⟨_, List.getElem?_eq_getElem h⟩ : ∃ s, (allW d n)[k]? = some s))
  clear ht1 hv1 ht2 hv2 hl hf1 hf2
  have CK := fun g W h => implLike g v1 d n (nW d n) false W HL.out h
  have HCK := Aside0.mk CK
  clear CK
  obtain ⟨N, hN⟩ : ∃ N, N = nW d n := ⟨_, rfl⟩
  rw [← hN] at HT1 HT2 HG hNl HCK
  rw [← hN]
  clear hN
  obtain ⟨h, hh⟩ : ∃ h : ByteArray → Option Fr, h = fun s => add (f1 s) (f2 s) := ⟨_, rfl⟩
  rw [← hh]
  have HH := Aside0.mk hh
  clear hh
  have HS := Aside0.mk (Sep.refl w)
  go_enter Try.func151, Try.ntmps151
  go_wp2_with (first | (go_at_call 165; refine (HCK.out _ _ (HS.out.oldI HT1.out)).mono ?_; rintro e_ w1 ⟨g', v', rfl, hs⟩; replace HS := sN2 HS hs; clear hs; have f1_ := bx_c (HS.out.oldI HT1.out) 3 (v := .bool false) rfl; have f2_ := bx_c (HS.out.oldI HT2.out) 3 (v := .bool bad2) rfl) | ((with_reducible refine gate_store (t := 4) (p := 22) rfl ?_); refine stL HS 0 3 #[.int .i64 (d : Int), .int .i64 (n : Int), .slice (some ⟨v', 0, none⟩) N N, (.bool bad2)] rfl rfl rfl rfl rfl ?_; clear HS f1_ f2_; intro w1 HS; have f1_ := bx_c (HS.out.oldI HT1.out) 2 (v := .slice (some ⟨v1, 0, none⟩) N N) rfl))
  go_loopw [28] (fun q w' => ∃ (i : Nat) (F : Tb), i ≤ N ∧ q = .int .i64 (i : Int) ∧ Aside0 (F = mapT d n h bad2 i) ∧ Aside0 (Mod w w' No [bx g' 132 #[.int .i64 (d : Int), .int .i64 (n : Int), .slice (some ⟨v', 0, none⟩) N N, .bool F.2], tV v' d n F.1])) (fun q _ => N - (intOf q).toNat)
  case atStart => exact ⟨0, ((fun _ => (0, 1)), bad2), by omega, rfl, ⟨rfl⟩, HS⟩
  case round =>
    clear HS
    obtain ⟨i, F, hi, rfl, HM, HS⟩ := hrel
    by_cases hlt : i < N
    · obtain ⟨s, hs⟩ := HG.out i hlt
      have HE := Aside0.mk hs
      have HP := Aside0.mk (fun W => (congrFun HH.out s) ▸ implPlusF (f1 s) (f2 s) W (HF1.out s) (HF2.out s))
      clear hs
      have hq0 : (0 : Int) ≤ i := by omega
      have f1_ := (tab_ix (HS.out.oldI HV1.out) HE.out).1
      have f2_ := (tab_ix (HS.out.oldI HV1.out) HE.out).2
      go_wp2_with (first | ((with_reducible refine gate_dst (N := 7) rfl ?_); refine bxL 35 #[(.int .i64 0), (.int .i64 0)] HS ?_; clear HS f1_ f2_; intro g_y w1 hg_y HS) | ((with_reducible refine gate_store (t := 35) (p := 7) rfl ?_); refine stL HS 0 0 #[.int .i64 (f1 s).1, .int .i64 (f1 s).2] rfl rfl rfl rfl rfl ?_; clear HS; intro w1 HS))
      replace HS := sD HS
      refine ps (.p 0 (.p 1 (.p 2 (.p 4 (.p 5 (.p 7 (.p 8 (.p 9 (.p 11 (.t 3 (.t 6 (.t 10 (.p 12 (.t 13 (.e 14 (.p 15 (.p 16 (.e 17 (.p 18 (.d 19 .done)))))))))))))))))))) (fun w' => w'.cell? ⟨g', 2, none⟩ = some (.slice (some ⟨v', 0, none⟩) N N) ∧ w'.cell? ⟨g_y, 0, none⟩ = some (.int .i64 (f1 s).1) ∧ w'.cell? ⟨g_y, 1, none⟩ = some (.int .i64 (f1 s).2) ∧ w'.cell? ⟨g2, 2, none⟩ = some (.slice (some ⟨v2, 0, none⟩) N N) ∧ w'.cell? ⟨v2, i * 2, none⟩ = some (.int .i64 (f2 s).1) ∧ w'.cell? ⟨v2, i * 2 + 1, none⟩ = some (.int .i64 (f2 s).2)) [19] ⟨HS.out.c 1 2 (v := .slice (some ⟨v', 0, none⟩) N N) rfl rfl, HS.out.c 0 0 (v := .int .i64 (f1 s).1) rfl rfl, HS.out.c 0 1 (v := .int .i64 (f1 s).2) rfl rfl, bx_c (HS.out.oldI HT2.out) 2 (v := .slice (some ⟨v2, 0, none⟩) N N) rfl, (tab_ix (HS.out.oldI HV2.out) HE.out).1, (tab_ix (HS.out.oldI HV2.out) HE.out).2⟩ (fun hHeld => ?_)
      repeat (first | ((with_reducible refine gate_p ?_); refine rp rfl rfl ?_) | ((with_reducible refine gate_t ?_); refine rt rfl rfl hHeld ?_))
      refine run_e rfl (fun K hK => ?_)
      refine gc Try.func187 (HP.out _) rfl rfl ?_
      rintro e_ w1 ⟨x, y, hxy, rfl, hb⟩
      refine ⟨_, rfl, ?_⟩
      replace HS := sB HS hb
      clear hb
      refine ge hK ⟨HS.out.c 1 2 (v := .slice (some ⟨v', 0, none⟩) N N) rfl rfl, HS.out.c 0 0 (v := .int .i64 (f1 s).1) rfl rfl, HS.out.c 0 1 (v := .int .i64 (f1 s).2) rfl rfl, bx_c (HS.out.oldI HT2.out) 2 (v := .slice (some ⟨v2, 0, none⟩) N N) rfl, (tab_ix (HS.out.oldI HV2.out) HE.out).1, (tab_ix (HS.out.oldI HV2.out) HE.out).2⟩ (fun hHeld => ?_)
      clear hK K
      repeat (first | ((with_reducible refine gate_p ?_); refine rp rfl rfl ?_) | ((with_reducible refine gate_t ?_); refine rt rfl rfl hHeld ?_))
      refine run_e rfl (fun K hK => ?_)
      refine gc Try.func152 (implCheckO g' v' d n N F.2 (h s) x y hxy _ (HS.out.at (i := 1) rfl)) rfl rfl ?_
      rintro e_ w1 ⟨rfl, hs⟩
      refine ⟨_, rfl, ?_⟩
      replace HS : Aside0 (Mod _ _ _ [_, _, _]) := sM1 HS 1 [0, 2] rfl hs
      clear hs
      refine ge hK ⟨HS.out.c 0 2 (v := .slice (some ⟨v', 0, none⟩) N N) rfl rfl, HS.out.c 1 0 (v := .int .i64 (f1 s).1) rfl rfl, HS.out.c 1 1 (v := .int .i64 (f1 s).2) rfl rfl, bx_c (HS.out.oldI HT2.out) 2 (v := .slice (some ⟨v2, 0, none⟩) N N) rfl, (tab_ix (HS.out.oldI HV2.out) HE.out).1, (tab_ix (HS.out.oldI HV2.out) HE.out).2⟩ (fun hHeld => ?_)
      clear hK K
      repeat (first | ((with_reducible refine gate_p ?_); refine rp rfl rfl ?_) | ((with_reducible refine gate_t ?_); refine rt rfl rfl hHeld ?_))
      refine run_d rfl (fun K hK => ?_)
      refine stp_put_ix (by rfl) rfl rfl HS 2 rfl s (by omega) HE.out (orZ (h s)) rfl rfl (by kernel_rfl) ?_
      clear HS
      intro w1 HS
      simp only [List.set_cons_zero, List.set_cons_succ] at HS
      refine goD hK rfl ?_
      clear hK K
      refine run_done ?_
      clear hHeld
      go_wp2
      replace HS : Aside0 (Mod _ _ _ [_, _]) := sX HS [0, 2]
      go_roundw
      case rel => exact ⟨i + 1, mapS h F s, by omega, by go_num, ⟨by rw [mapT_succ HE.out, HM.out]⟩, HS⟩
      case measure => simp [intOf]; omega
    · obtain rfl : i = N := by omega
      go_wp2
      go_ret
      obtain rfl := HM.out
      exact ⟨g', v', rfl, HS.out⟩
theorem implSum (g1 v1 g2 v2 d n : Nat) (bad1 bad2 : Bool) (f1 f2 : ByteArray → Fr) (w : World) (hl : lev d n = true) (ht1 : (tS g1 v1 d n (nW d n) bad1).I w) (hv1 : (tV v1 d n f1).I w) (ht2 : (tS g2 v2 d n (nW d n) bad2).I w) (hv2 : (tV v2 d n f2).I w) (hf1 : good f1) (hf2 : good f2) :
    Calls Try.prog 151 #[.pointer (some ⟨g1, 0, none⟩), .pointer (some ⟨g2, 0, none⟩)] w fun e w' =>
      ∃ g' v', e = .returned (.pointer (some ⟨g', 0, none⟩)) ∧ Sep w w' [tS g' v' d n (nW d n) (mapT d n (fun s => add (f1 s) (f2 s)) (bad1 || bad2) (nW d n)).2, tV v' d n (mapT d n (fun s => add (f1 s) (f2 s)) (bad1 || bad2) (nW d n)).1] := by
  cases bad1 with
  | true => exact implSum_true g1 v1 g2 v2 d n bad2 f1 f2 w hl ht1 hv1 ht2 hv2 hf1 hf2
  | false => exact implSum_false g1 v1 g2 v2 d n bad2 f1 f2 w hl ht1 hv1 ht2 hv2 hf1 hf2
end Go.Proofs.Ytaheikponfmdiaa.H


