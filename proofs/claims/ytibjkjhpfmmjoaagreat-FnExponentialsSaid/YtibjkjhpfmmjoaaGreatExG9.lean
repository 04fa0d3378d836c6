/- Plain facts and contracts of functions that the law's walk uses. Conditions: those that stand in each statement. -/
import Derived.Test.YtibjkjhpfmmjoaaGreatExG4
import Derived.Test.YtibjkjhpfmmjoaaGreatExG1
import Derived.Test.YtibjkjhpfmmjoaaGreatExG5
namespace Go.Proofs.YtibjkjhpfmmjoaaGreat.H
open Go.RowKit Go.Proofs.YtibjkjhpfmmjoaaGreatW.PrintWords Go.Proofs.YtibjkjhpfmmjoaaGreatW.PrintLast Go.Proofs.YtibjkjhpfmmjoaaGreatW.PrintMore Go.Proofs.YtibjkjhpfmmjoaaGreat.M
attribute [local go_sem] max2_int min2_int max_two min_two max_three min_three max_four min_four
set_option linter.unusedVariables false
set_option linter.unusedSimpArgs false
set_option maxRecDepth 100000
theorem stp_put_ix {P : Program} {ops : Array Oper} {o : Oper} {a : Act} {Q : Exit → Act → World → Prop} {Kc : Act → World → Prop} {w W : World} {S : Nat → Prop} {L : List As}
    (hw : Region.wanted o (yielded ops a.tmps) = true) (hN : o.dst = none) {ty : TypeId} {x y : Operand} (ho : o.op = .store ty x y) (HS : Aside0 (Mod w W S L)) (i : Nat) {v d n k : Nat} {f : ByteArray → Fr} (hi : L[i]? = some (tV v d n f)) (s : ByteArray) (hd : d ≤ 9) (hk : (allW d n)[k]? = some s) (c : Fr)
    (hx : a.eval x = .pointer (some ⟨v, k * 2, none⟩)) (hy : a.eval y = .agg #[.int .i64 c.1, .int .i64 c.2]) (hsz : (P.info? ty).map (·.size) = some 2) (h : ∀ w1, Aside0 (Mod w w1 S (L.set i (tV v d n (upd f s c)))) → Kc a w1) : Stp P ops Q o a W Kc :=
  stp_put_tab hw hN ho HS i hi s hd (num_at hd hk).1 (num_at hd hk).2.1 (num_at hd hk).2.2 c hx hy hsz h
set_option maxHeartbeats 8000000 in
theorem implScaled (g v d n : Nat) (bad : Bool) (f : ByteArray → Fr) (a : Fr) (w : World) (hl : lev d n = true) (ht : (tS g v d n (nW d n) bad).I w) (hv : (tV v d n f).I w) (hf : good f) (ha : fr a = true) :
    Calls Tryz.prog 53 #[.pointer (some ⟨g, 0, none⟩), .agg #[.int .i64 a.1, .int .i64 a.2]] w fun e w' =>
      ∃ g' v', e = .returned (.pointer (some ⟨g', 0, none⟩)) ∧ Sep w w' [tS g' v' d n (nW d n) (mapT d n (fun s => mul (f s) a) bad (nW d n)).2, tV v' d n (mapT d n (fun s => mul (f s) a) bad (nW d n)).1] := by
  obtain ⟨hd1, hd3, hn1, hn5⟩ := lev_bd hl
  have hNl := nW_le hl
  have HT := Aside0.mk ht
  have HV := Aside0.mk hv
  have HL := Aside0.mk hl
  have HF := Aside0.mk hf
  have HA := Aside0.mk ha
  have HG := Aside0.mk (fun k (h : k < nW d n) => (⟨_, List.getElem?_eq_getElem h⟩ : ∃ s, (allW d n)[k]? = some s))
  clear ht hv hl hf ha
  have CK := fun g W h => implLike g v d n (nW d n) bad W HL.out h
  have HCK := Aside0.mk CK
  clear CK
  obtain ⟨N, hN⟩ : ∃ N, N = nW d n := ⟨_, rfl⟩
  rw [← hN] at HT HG hNl HCK
  rw [← hN]
  clear hN
  obtain ⟨h, hh⟩ : ∃ h : ByteArray → Option Fr, h = fun s => mul (f s) a := ⟨_, rfl⟩
  rw [← hh]
  have HH := Aside0.mk hh
  clear hh
  have HS := Aside0.mk (Sep.refl w)
  go_enter Tryz.func53, Tryz.ntmps53
  go_wp2_with (first | ((with_reducible refine gate_dst (N := 3) rfl ?_); refine bxL 37 #[.int .i64 a.1, .int .i64 a.2] HS ?_; clear HS; intro g_b w1 hg_b HS) | (go_at_call 110; refine (HCK.out _ _ (HS.out.oldI HT.out)).mono ?_; rintro e_ w1 ⟨g', v', rfl, hs⟩; replace HS := sN2 HS hs; clear hs; have f1_ := bx_c (HS.out.oldI HT.out) 3 (v := .bool bad) rfl) | ((with_reducible refine gate_store (t := 4) (p := 16) rfl ?_); refine stL HS 0 3 #[.int .i64 (d : Int), .int .i64 (n : Int), .slice (some ⟨v', 0, none⟩) N N, (.bool bad)] rfl rfl rfl rfl rfl ?_; clear HS f1_; intro w1 HS; have f1_ := bx_c (HS.out.oldI HT.out) 2 (v := .slice (some ⟨v, 0, none⟩) N N) rfl))
  go_loopw [22] (fun q w' => ∃ (i : Nat) (F : Tb), i ≤ N ∧ q = .int .i64 (i : Int) ∧ Aside0 (F = mapT d n h bad i) ∧ Aside0 (Mod w w' No [bx g' 60 #[.int .i64 (d : Int), .int .i64 (n : Int), .slice (some ⟨v', 0, none⟩) N N, .bool F.2], tV v' d n F.1, bx g_b 37 #[.int .i64 a.1, .int .i64 a.2]])) (fun q _ => N - (intOf q).toNat)
  case atStart => exact ⟨0, ((fun _ => (0, 1)), bad), by omega, rfl, ⟨rfl⟩, HS⟩
  case round =>
    clear HS
    obtain ⟨i, F, hi, rfl, HM, HS⟩ := hrel
    by_cases hlt : i < N
    · obtain ⟨s, hs⟩ := HG.out i hlt
      have HE := Aside0.mk hs
      have HP := Aside0.mk (fun W => (congrFun HH.out s) ▸ implTimesF (f s) a W (HF.out s) HA.out)
      clear hs
      have hq0 : (0 : Int) ≤ i := by omega
      have f1_ := (tab_ix (HS.out.oldI HV.out) HE.out).1
      have f2_ := (tab_ix (HS.out.oldI HV.out) HE.out).2
      go_wp2_with (first | ((with_reducible refine gate_dst (N := 7) rfl ?_); refine bxL 37 #[(.int .i64 0), (.int .i64 0)] HS ?_; clear HS f1_ f2_; intro g_y w1 hg_y HS) | ((with_reducible refine gate_store (t := 37) (p := 7) rfl ?_); refine stL HS 0 0 #[.int .i64 (f s).1, .int .i64 (f s).2] rfl rfl rfl rfl rfl ?_; clear HS; intro w1 HS))
      replace HS := sD HS
      refine ps (.p 0 (.p 1 (.p 2 (.p 4 (.p 5 (.t 3 (.t 6 (.t 7 (.e 8 (.p 9 (.p 10 (.e 11 (.p 12 (.d 13 .done)))))))))))))) (fun w' => w'.cell? ⟨g', 2, none⟩ = some (.slice (some ⟨v', 0, none⟩) N N) ∧ w'.cell? ⟨g_y, 0, none⟩ = some (.int .i64 (f s).1) ∧ w'.cell? ⟨g_y, 1, none⟩ = some (.int .i64 (f s).2) ∧ w'.cell? ⟨g_b, 0, none⟩ = some (.int .i64 a.1) ∧ w'.cell? ⟨g_b, 1, none⟩ = some (.int .i64 a.2)) [13] ⟨HS.out.c 1 2 (v := .slice (some ⟨v', 0, none⟩) N N) rfl rfl, HS.out.c 0 0 (v := .int .i64 (f s).1) rfl rfl, HS.out.c 0 1 (v := .int .i64 (f s).2) rfl rfl, HS.out.c 3 0 (v := .int .i64 a.1) rfl rfl, HS.out.c 3 1 (v := .int .i64 a.2) rfl rfl⟩ (fun hHeld => ?_)
      repeat (first | ((with_reducible refine gate_p ?_); refine rp rfl rfl ?_) | ((with_reducible refine gate_t ?_); refine rt rfl rfl hHeld ?_))
      refine run_e rfl (fun K hK => ?_)
      refine gc Tryz.func86 (HP.out _) rfl rfl ?_
      rintro e_ w1 ⟨x, y, hxy, rfl, hb⟩
      refine ⟨_, rfl, ?_⟩
      replace HS := sB HS hb
      clear hb
      refine ge hK ⟨HS.out.c 1 2 (v := .slice (some ⟨v', 0, none⟩) N N) rfl rfl, HS.out.c 0 0 (v := .int .i64 (f s).1) rfl rfl, HS.out.c 0 1 (v := .int .i64 (f s).2) rfl rfl, HS.out.c 3 0 (v := .int .i64 a.1) rfl rfl, HS.out.c 3 1 (v := .int .i64 a.2) rfl rfl⟩ (fun hHeld => ?_)
      clear hK K
      repeat (first | ((with_reducible refine gate_p ?_); refine rp rfl rfl ?_) | ((with_reducible refine gate_t ?_); refine rt rfl rfl hHeld ?_))
      refine run_e rfl (fun K hK => ?_)
      refine gc Tryz.func111 (implCheckO g' v' d n N F.2 (h s) x y hxy _ (HS.out.at (i := 1) rfl)) rfl rfl ?_
      rintro e_ w1 ⟨rfl, hs⟩
      refine ⟨_, rfl, ?_⟩
      replace HS : Aside0 (Mod _ _ _ [_, _, _, _]) := sM1 HS 1 [0, 2, 3] rfl hs
      clear hs
      refine ge hK ⟨HS.out.c 0 2 (v := .slice (some ⟨v', 0, none⟩) N N) rfl rfl, HS.out.c 1 0 (v := .int .i64 (f s).1) rfl rfl, HS.out.c 1 1 (v := .int .i64 (f s).2) rfl rfl, HS.out.c 3 0 (v := .int .i64 a.1) rfl rfl, HS.out.c 3 1 (v := .int .i64 a.2) rfl rfl⟩ (fun hHeld => ?_)
      clear hK K
      repeat (first | ((with_reducible refine gate_p ?_); refine rp rfl rfl ?_) | ((with_reducible refine gate_t ?_); refine rt rfl rfl hHeld ?_))
      refine run_d rfl (fun K hK => ?_)
      refine stp_put_ix (by rfl) rfl rfl HS 2 rfl s (by omega) HE.out (orZ (h s)) rfl rfl (by kernel_rfl) ?_
      clear HS
      intro w1 HS
      simp only [List.set_cons_zero, List.set_cons_succ] at HS
      refine goD hK rfl ?_
      clear hK K
      refine run_done ?_
      clear hHeld
      go_wp2
      replace HS : Aside0 (Mod _ _ _ [_, _, _]) := sX HS [0, 2, 3]
      have n_ := HS.out.sel [0, 1, 2] (by decide)
      simp only [List.filterMap_cons, List.filterMap_nil, List.getElem?_cons_zero, List.getElem?_cons_succ] at n_
      go_roundw
      case rel => exact ⟨i + 1, mapS h F s, by omega, by go_num, ⟨by rw [mapT_succ HE.out, HM.out]⟩, ⟨n_⟩⟩
      case measure => simp [intOf]; omega
    · obtain rfl : i = N := by omega
      go_wp2
      go_ret
      obtain rfl := HM.out
      have n_ := HS.out.sel [0, 1] (by decide)
      simp only [List.filterMap_cons, List.filterMap_nil, List.getElem?_cons_zero, List.getElem?_cons_succ] at n_
      exact ⟨g', v', rfl, n_⟩
set_option maxHeartbeats 8000000 in
theorem implSum_true (g1 v1 g2 v2 d n : Nat) (bad2 : Bool) (f1 f2 : ByteArray → Fr) (w : World) (hl : lev d n = true) (ht1 : (tS g1 v1 d n (nW d n) true).I w) (hv1 : (tV v1 d n f1).I w) (ht2 : (tS g2 v2 d n (nW d n) bad2).I w) (hv2 : (tV v2 d n f2).I w) (hf1 : good f1) (hf2 : good f2) :
    Calls Tryz.prog 112 #[.pointer (some ⟨g1, 0, none⟩), .pointer (some ⟨g2, 0, none⟩)] w fun e w' =>
      ∃ g' v', e = .returned (.pointer (some ⟨g', 0, none⟩)) ∧ Sep w w' [tS g' v' d n (nW d n) (mapT d n (fun s => add (f1 s) (f2 s)) true (nW d n)).2, tV v' d n (mapT d n (fun s => add (f1 s) (f2 s)) true (nW d n)).1] := by
  obtain ⟨hd1, hd3, hn1, hn5⟩ := lev_bd hl
  have hNl := nW_le hl
  have HT1 := Aside0.mk ht1
  have HV1 := Aside0.mk hv1
  have HT2 := Aside0.mk ht2
  have HV2 := Aside0.mk hv2
  have HL := Aside0.mk hl
  have HF1 := Aside0.mk hf1
  have HF2 := Aside0.mk hf2
  have HG := Aside0.mk (fun k (h : k < nW d n) => (⟨_, List.getElem?_eq_getElem h⟩ : ∃ s, (allW d n)[k]? = some s))
  clear ht1 hv1 ht2 hv2 hl hf1 hf2
  have CK := fun g W h => implLike g v1 d n (nW d n) true W HL.out h
  have HCK := Aside0.mk CK
  clear CK
  obtain ⟨N, hN⟩ : ∃ N, N = nW d n := ⟨_, rfl⟩
  rw [← hN] at HT1 HT2 HG hNl HCK
  rw [← hN]
  clear hN
  obtain ⟨h, hh⟩ : ∃ h : ByteArray → Option Fr, h = fun s => add (f1 s) (f2 s) := ⟨_, rfl⟩
  rw [← hh]
  have HH := Aside0.mk hh
  clear hh
  have HS := Aside0.mk (Sep.refl w)
  go_enter Tryz.func112, Tryz.ntmps112
  go_wp2_with (first | (go_at_call 110; refine (HCK.out _ _ (HS.out.oldI HT1.out)).mono ?_; rintro e_ w1 ⟨g', v', rfl, hs⟩; replace HS := sN2 HS hs; clear hs; have f1_ := bx_c (HS.out.oldI HT1.out) 3 (v := .bool true) rfl) | ((with_reducible refine gate_store (t := 4) (p := 22) rfl ?_); refine stL HS 0 3 #[.int .i64 (d : Int), .int .i64 (n : Int), .slice (some ⟨v', 0, none⟩) N N, (.bool true)] rfl rfl rfl rfl rfl ?_; clear HS f1_; intro w1 HS; have f1_ := bx_c (HS.out.oldI HT1.out) 2 (v := .slice (some ⟨v1, 0, none⟩) N N) rfl))
  go_loopw [28] (fun q w' => ∃ (i : Nat) (F : Tb), i ≤ N ∧ q = .int .i64 (i : Int) ∧ Aside0 (F = mapT d n h true i) ∧ Aside0 (Mod w w' No [bx g' 60 #[.int .i64 (d : Int), .int .i64 (n : Int), .slice (some ⟨v', 0, none⟩) N N, .bool F.2], tV v' d n F.1])) (fun q _ => N - (intOf q).toNat)
  case atStart => exact ⟨0, ((fun _ => (0, 1)), true), by omega, rfl, ⟨rfl⟩, HS⟩
  case round =>
    clear HS
    obtain ⟨i, F, hi, rfl, HM, HS⟩ := hrel
    by_cases hlt : i < N
    · obtain ⟨s, hs⟩ := HG.out i hlt
      have HE := Aside0.mk hs
      have HP := Aside0.mk (fun W => (congrFun HH.out s) ▸ implPlusF (f1 s) (f2 s) W (HF1.out s) (HF2.out s))
      clear hs
      have hq0 : (0 : Int) ≤ i := by omega
      have f1_ := (tab_ix (HS.out.oldI HV1.out) HE.out).1
      have f2_ := (tab_ix (HS.out.oldI HV1.out) HE.out).2
      go_wp2_with (first | ((with_reducible refine gate_dst (N := 7) rfl ?_); refine bxL 37 #[(.int .i64 0), (.int .i64 0)] HS ?_; clear HS f1_ f2_; intro g_y w1 hg_y HS) | ((with_reducible refine gate_store (t := 37) (p := 7) rfl ?_); refine stL HS 0 0 #[.int .i64 (f1 s).1, .int .i64 (f1 s).2] rfl rfl rfl rfl rfl ?_; clear HS; intro w1 HS))
      replace HS := sD HS
      refine ps (.p 0 (.p 1 (.p 2 (.p 4 (.p 5 (.p 7 (.p 8 (.p 9 (.p 11 (.t 3 (.t 6 (.t 10 (.p 12 (.t 13 (.e 14 (.p 15 (.p 16 (.e 17 (.p 18 (.d 19 .done)))))))))))))))))))) (fun w' => w'.cell? ⟨g', 2, none⟩ = some (.slice (some ⟨v', 0, none⟩) N N) ∧ w'.cell? ⟨g_y, 0, none⟩ = some (.int .i64 (f1 s).1) ∧ w'.cell? ⟨g_y, 1, none⟩ = some (.int .i64 (f1 s).2) ∧ w'.cell? ⟨g2, 2, none⟩ = some (.slice (some ⟨v2, 0, none⟩) N N) ∧ w'.cell? ⟨v2, i * 2, none⟩ = some (.int .i64 (f2 s).1) ∧ w'.cell? ⟨v2, i * 2 + 1, none⟩ = some (.int .i64 (f2 s).2)) [19] ⟨HS.out.c 1 2 (v := .slice (some ⟨v', 0, none⟩) N N) rfl rfl, HS.out.c 0 0 (v := .int .i64 (f1 s).1) rfl rfl, HS.out.c 0 1 (v := .int .i64 (f1 s).2) rfl rfl, bx_c (HS.out.oldI HT2.out) 2 (v := .slice (some ⟨v2, 0, none⟩) N N) rfl, (tab_ix (HS.out.oldI HV2.out) HE.out).1, (tab_ix (HS.out.oldI HV2.out) HE.out).2⟩ (fun hHeld => ?_)
      repeat (first | ((with_reducible refine gate_p ?_); refine rp rfl rfl ?_) | ((with_reducible refine gate_t ?_); refine rt rfl rfl hHeld ?_))
      refine run_e rfl (fun K hK => ?_)
      refine gc Tryz.func136 (HP.out _) rfl rfl ?_
      rintro e_ w1 ⟨x, y, hxy, rfl, hb⟩
      refine ⟨_, rfl, ?_⟩
      replace HS := sB HS hb
      clear hb
      refine ge hK ⟨HS.out.c 1 2 (v := .slice (some ⟨v', 0, none⟩) N N) rfl rfl, HS.out.c 0 0 (v := .int .i64 (f1 s).1) rfl rfl, HS.out.c 0 1 (v := .int .i64 (f1 s).2) rfl rfl, bx_c (HS.out.oldI HT2.out) 2 (v := .slice (some ⟨v2, 0, none⟩) N N) rfl, (tab_ix (HS.out.oldI HV2.out) HE.out).1, (tab_ix (HS.out.oldI HV2.out) HE.out).2⟩ (fun hHeld => ?_)
      clear hK K
      repeat (first | ((with_reducible refine gate_p ?_); refine rp rfl rfl ?_) | ((with_reducible refine gate_t ?_); refine rt rfl rfl hHeld ?_))
      refine run_e rfl (fun K hK => ?_)
      refine gc Tryz.func111 (implCheckO g' v' d n N F.2 (h s) x y hxy _ (HS.out.at (i := 1) rfl)) rfl rfl ?_
      rintro e_ w1 ⟨rfl, hs⟩
      refine ⟨_, rfl, ?_⟩
      replace HS : Aside0 (Mod _ _ _ [_, _, _]) := sM1 HS 1 [0, 2] rfl hs
      clear hs
      refine ge hK ⟨HS.out.c 0 2 (v := .slice (some ⟨v', 0, none⟩) N N) rfl rfl, HS.out.c 1 0 (v := .int .i64 (f1 s).1) rfl rfl, HS.out.c 1 1 (v := .int .i64 (f1 s).2) rfl rfl, bx_c (HS.out.oldI HT2.out) 2 (v := .slice (some ⟨v2, 0, none⟩) N N) rfl, (tab_ix (HS.out.oldI HV2.out) HE.out).1, (tab_ix (HS.out.oldI HV2.out) HE.out).2⟩ (fun hHeld => ?_)
      clear hK K
      repeat (first | ((with_reducible refine gate_p ?_); refine rp rfl rfl ?_) | ((with_reducible refine gate_t ?_); refine rt rfl rfl hHeld ?_))
      refine run_d rfl (fun K hK => ?_)
      refine stp_put_ix (by rfl) rfl rfl HS 2 rfl s (by omega) HE.out (orZ (h s)) rfl rfl (by kernel_rfl) ?_
      clear HS
      intro w1 HS
      simp only [List.set_cons_zero, List.set_cons_succ] at HS
      refine goD hK rfl ?_
      clear hK K
      refine run_done ?_
      clear hHeld
      go_wp2
      replace HS : Aside0 (Mod _ _ _ [_, _]) := sX HS [0, 2]
      go_roundw
      case rel => exact ⟨i + 1, mapS h F s, by omega, by go_num, ⟨by rw [mapT_succ HE.out, HM.out]⟩, HS⟩
      case measure => simp [intOf]; omega
    · obtain rfl : i = N := by omega
      go_wp2
      go_ret
      obtain rfl := HM.out
      exact ⟨g', v', rfl, HS.out⟩
set_option maxHeartbeats 8000000 in
theorem implSum_false (g1 v1 g2 v2 d n : Nat) (bad2 : Bool) (f1 f2 : ByteArray → Fr) (w : World) (hl : lev d n = true) (ht1 : (tS g1 v1 d n (nW d n) false).I w) (hv1 : (tV v1 d n f1).I w) (ht2 : (tS g2 v2 d n (nW d n) bad2).I w) (hv2 : (tV v2 d n f2).I w) (hf1 : good f1) (hf2 : good f2) :
    Calls Tryz.prog 112 #[.pointer (some ⟨g1, 0, none⟩), .pointer (some ⟨g2, 0, none⟩)] w fun e w' =>
      ∃ g' v', e = .returned (.pointer (some ⟨g', 0, none⟩)) ∧ Sep w w' [tS g' v' d n (nW d n) (mapT d n (fun s => add (f1 s) (f2 s)) bad2 (nW d n)).2, tV v' d n (mapT d n (fun s => add (f1 s) (f2 s)) bad2 (nW d n)).1] := by
  obtain ⟨hd1, hd3, hn1, hn5⟩ := lev_bd hl
  have hNl := nW_le hl
  have HT1 := Aside0.mk ht1
  have HV1 := Aside0.mk hv1
  have HT2 := Aside0.mk ht2
  have HV2 := Aside0.mk hv2
  have HL := Aside0.mk hl
  have HF1 := Aside0.mk hf1
  have HF2 := Aside0.mk hf2
  have HG := Aside0.mk (fun k (h : k < nW d n) => (⟨_, List.getElem?_eq_getElem h⟩ : ∃ s, (allW d n)[k]? = some s))
  clear ht1 hv1 ht2 hv2 hl hf1 hf2
  have CK := fun g W h => implLike g v1 d n (nW d n) false W HL.out h
  have HCK := Aside0.mk CK
  clear CK
  obtain ⟨N, hN⟩ : ∃ N, N = nW d n := ⟨_, rfl⟩
  rw [← hN] at HT1 HT2 HG hNl HCK
  rw [← hN]
  clear hN
  obtain ⟨h, hh⟩ : ∃ h : ByteArray → Option Fr, h = fun s => add (f1 s) (f2 s) := ⟨_, rfl⟩
  rw [← hh]
  have HH := Aside0.mk hh
  clear hh
  have HS := Aside0.mk (Sep.refl w)
  go_enter Tryz.func112, Tryz.ntmps112
  go_wp2_with (first | (go_at_call 110; refine (HCK.out _ _ (HS.out.oldI HT1.out)).mono ?_; rintro e_ w1 ⟨g', v', rfl, hs⟩; replace HS := sN2 HS hs; clear hs; have f1_ := bx_c (HS.out.oldI HT1.out) 3 (v := .bool false) rfl; have f2_ := bx_c (HS.out.oldI HT2.out) 3 (v := .bool bad2) rfl) | ((with_reducible refine gate_store (t := 4) (p := 22) rfl ?_); refine stL HS 0 3 #[.int .i64 (d : Int), .int .i64 (n : Int), .slice (some ⟨v', 0, none⟩) N N, (.bool bad2)] rfl rfl rfl rfl rfl ?_; clear HS f1_ f2_; intro w1 HS; have f1_ := bx_c (HS.out.oldI HT1.out) 2 (v := .slice (some ⟨v1, 0, none⟩) N N) rfl))
  go_loopw [28] (fun q w' => ∃ (i : Nat) (F : Tb), i ≤ N ∧ q = .int .i64 (i : Int) ∧ Aside0 (F = mapT d n h bad2 i) ∧ Aside0 (Mod w w' No [bx g' 60 #[.int .i64 (d : Int), .int .i64 (n : Int), .slice (some ⟨v', 0, none⟩) N N, .bool F.2], tV v' d n F.1])) (fun q _ => N - (intOf q).toNat)
  case atStart => exact ⟨0, ((fun _ => (0, 1)), bad2), by omega, rfl, ⟨rfl⟩, HS⟩
  case round =>
    clear HS
    obtain ⟨i, F, hi, rfl, HM, HS⟩ := hrel
    by_cases hlt : i < N
    · obtain ⟨s, hs⟩ := HG.out i hlt
      have HE := Aside0.mk hs
      have HP := Aside0.mk (fun W => (congrFun HH.out s) ▸ implPlusF (f1 s) (f2 s) W (HF1.out s) (HF2.out s))
      clear hs
      have hq0 : (0 : Int) ≤ i := by omega
      have f1_ := (tab_ix (HS.out.oldI HV1.out) HE.out).1
      have f2_ := (tab_ix (HS.out.oldI HV1.out) HE.out).2
      go_wp2_with (first | ((with_reducible refine gate_dst (N := 7) rfl ?_); refine bxL 37 #[(.int .i64 0), (.int .i64 0)] HS ?_; clear HS f1_ f2_; intro g_y w1 hg_y HS) | ((with_reducible refine gate_store (t := 37) (p := 7) rfl ?_); refine stL HS 0 0 #[.int .i64 (f1 s).1, .int .i64 (f1 s).2] rfl rfl rfl rfl rfl ?_; clear HS; intro w1 HS))
      replace HS := sD HS
      refine ps (.p 0 (.p 1 (.p 2 (.p 4 (.p 5 (.p 7 (.p 8 (.p 9 (.p 11 (.t 3 (.t 6 (.t 10 (.p 12 (.t 13 (.e 14 (.p 15 (.p 16 (.e 17 (.p 18 (.d 19 .done)))))))))))))))))))) (fun w' => w'.cell? ⟨g', 2, none⟩ = some (.slice (some ⟨v', 0, none⟩) N N) ∧ w'.cell? ⟨g_y, 0, none⟩ = some (.int .i64 (f1 s).1) ∧ w'.cell? ⟨g_y, 1, none⟩ = some (.int .i64 (f1 s).2) ∧ w'.cell? ⟨g2, 2, none⟩ = some (.slice (some ⟨v2, 0, none⟩) N N) ∧ w'.cell? ⟨v2, i * 2, none⟩ = some (.int .i64 (f2 s).1) ∧ w'.cell? ⟨v2, i * 2 + 1, none⟩ = some (.int .i64 (f2 s).2)) [19] ⟨HS.out.c 1 2 (v := .slice (some ⟨v', 0, none⟩) N N) rfl rfl, HS.out.c 0 0 (v := .int .i64 (f1 s).1) rfl rfl, HS.out.c 0 1 (v := .int .i64 (f1 s).2) rfl rfl, bx_c (HS.out.oldI HT2.out) 2 (v := .slice (some ⟨v2, 0, none⟩) N N) rfl, (tab_ix (HS.out.oldI HV2.out) HE.out).1, (tab_ix (HS.out.oldI HV2.out) HE.out).2⟩ (fun hHeld => ?_)
      repeat (first | ((with_reducible refine gate_p ?_); refine rp rfl rfl ?_) | ((with_reducible refine gate_t ?_); refine rt rfl rfl hHeld ?_))
      refine run_e rfl (fun K hK => ?_)
      refine gc Tryz.func136 (HP.out _) rfl rfl ?_
      rintro e_ w1 ⟨x, y, hxy, rfl, hb⟩
      refine ⟨_, rfl, ?_⟩
      replace HS := sB HS hb
      clear hb
      refine ge hK ⟨HS.out.c 1 2 (v := .slice (some ⟨v', 0, none⟩) N N) rfl rfl, HS.out.c 0 0 (v := .int .i64 (f1 s).1) rfl rfl, HS.out.c 0 1 (v := .int .i64 (f1 s).2) rfl rfl, bx_c (HS.out.oldI HT2.out) 2 (v := .slice (some ⟨v2, 0, none⟩) N N) rfl, (tab_ix (HS.out.oldI HV2.out) HE.out).1, (tab_ix (HS.out.oldI HV2.out) HE.out).2⟩ (fun hHeld => ?_)
      clear hK K
      repeat (first | ((with_reducible refine gate_p ?_); refine rp rfl rfl ?_) | ((with_reducible refine gate_t ?_); refine rt rfl rfl hHeld ?_))
      refine run_e rfl (fun K hK => ?_)
      refine gc Tryz.func111 (implCheckO g' v' d n N F.2 (h s) x y hxy _ (HS.out.at (i := 1) rfl)) rfl rfl ?_
      rintro e_ w1 ⟨rfl, hs⟩
      refine ⟨_, rfl, ?_⟩
      replace HS : Aside0 (Mod _ _ _ [_, _, _]) := sM1 HS 1 [0, 2] rfl hs
      clear hs
      refine ge hK ⟨HS.out.c 0 2 (v := .slice (some ⟨v', 0, none⟩) N N) rfl rfl, HS.out.c 1 0 (v := .int .i64 (f1 s).1) rfl rfl, HS.out.c 1 1 (v := .int .i64 (f1 s).2) rfl rfl, bx_c (HS.out.oldI HT2.out) 2 (v := .slice (some ⟨v2, 0, none⟩) N N) rfl, (tab_ix (HS.out.oldI HV2.out) HE.out).1, (tab_ix (HS.out.oldI HV2.out) HE.out).2⟩ (fun hHeld => ?_)
      clear hK K
      repeat (first | ((with_reducible refine gate_p ?_); refine rp rfl rfl ?_) | ((with_reducible refine gate_t ?_); refine rt rfl rfl hHeld ?_))
      refine run_d rfl (fun K hK => ?_)
      refine stp_put_ix (by rfl) rfl rfl HS 2 rfl s (by omega) HE.out (orZ (h s)) rfl rfl (by kernel_rfl) ?_
      clear HS
      intro w1 HS
      simp only [List.set_cons_zero, List.set_cons_succ] at HS
      refine goD hK rfl ?_
      clear hK K
      refine run_done ?_
      clear hHeld
      go_wp2
      replace HS : Aside0 (Mod _ _ _ [_, _]) := sX HS [0, 2]
      go_roundw
      case rel => exact ⟨i + 1, mapS h F s, by omega, by go_num, ⟨by rw [mapT_succ HE.out, HM.out]⟩, HS⟩
      case measure => simp [intOf]; omega
    · obtain rfl : i = N := by omega
      go_wp2
      go_ret
      obtain rfl := HM.out
      exact ⟨g', v', rfl, HS.out⟩
theorem implSum (g1 v1 g2 v2 d n : Nat) (bad1 bad2 : Bool) (f1 f2 : ByteArray → Fr) (w : World) (hl : lev d n = true) (ht1 : (tS g1 v1 d n (nW d n) bad1).I w) (hv1 : (tV v1 d n f1).I w) (ht2 : (tS g2 v2 d n (nW d n) bad2).I w) (hv2 : (tV v2 d n f2).I w) (hf1 : good f1) (hf2 : good f2) :
    Calls Tryz.prog 112 #[.pointer (some ⟨g1, 0, none⟩), .pointer (some ⟨g2, 0, none⟩)] w fun e w' =>
      ∃ g' v', e = .returned (.pointer (some ⟨g', 0, none⟩)) ∧ Sep w w' [tS g' v' d n (nW d n) (mapT d n (fun s => add (f1 s) (f2 s)) (bad1 || bad2) (nW d n)).2, tV v' d n (mapT d n (fun s => add (f1 s) (f2 s)) (bad1 || bad2) (nW d n)).1] := by
  cases bad1 with
  | true => exact implSum_true g1 v1 g2 v2 d n bad2 f1 f2 w hl ht1 hv1 ht2 hv2 hf1 hf2
  | false => exact implSum_false g1 v1 g2 v2 d n bad2 f1 f2 w hl ht1 hv1 ht2 hv2 hf1 hf2
end Go.Proofs.YtibjkjhpfmmjoaaGreat.H



namespace Go.Proofs.YtibjkjhpfmmjoaaGreat.H
open Go.RowKit Go.Proofs.YtibjkjhpfmmjoaaGreatW.PrintWords Go.Proofs.YtibjkjhpfmmjoaaGreatW.PrintLast Go.Proofs.YtibjkjhpfmmjoaaGreatW.PrintMore Go.Proofs.YtibjkjhpfmmjoaaGreat.M
attribute [local go_sem] max2_int min2_int max_two min_two max_three min_three max_four min_four
set_option linter.unusedVariables false
set_option linter.unusedSimpArgs false
set_option maxRecDepth 100000
set_option maxHeartbeats 8000000 in
theorem implTimesTab (g1 v1 g2 v2 d n : Nat) (b1 b2 : Bool) (f1 f2 : ByteArray → Fr) (w : World) (hl : lev d n = true) (ht1 : (tS g1 v1 d n (nW d n) b1).I w) (hv1 : (tV v1 d n f1).I w) (ht2 : (tS g2 v2 d n (nW d n) b2).I w) (hv2 : (tV v2 d n f2).I w) (hf1 : good f1) (hf2 : good f2) :
    Calls Tryz.prog 60 #[.pointer (some ⟨g1, 0, none⟩), .pointer (some ⟨g2, 0, none⟩)] w fun e w' =>
      ∃ g' v', e = .returned (.pointer (some ⟨g', 0, none⟩)) ∧ Sep w w' [tS g' v' d n (nW d n) (timesT d n (f1, b1) (f2, b2)).2, tV v' d n (timesT d n (f1, b1) (f2, b2)).1] := by
  obtain ⟨hd1, hd3, hn1, hn5⟩ := lev_bd hl
  have hd9 : d ≤ 9 := by omega
  have hNl := nW_le hl
  have HT1 := Aside0.mk ht1
  have HV1 := Aside0.mk hv1
  have HT2 := Aside0.mk ht2
  have HV2 := Aside0.mk hv2
  have HL := Aside0.mk hl
  have HF1 := Aside0.mk hf1
  have HF2 := Aside0.mk hf2
  have HG := Aside0.mk (fun k (h : k < nW d n) => (⟨_, List.getElem?_eq_getElem h⟩ : ∃ s, (allW d n)[k]? = some s))
  clear ht1 hv1 ht2 hv2 hl hf1 hf2
  have HCK := Aside0.mk (fun W h => implLike g1 v1 d n (nW d n) b1 W HL.out h)
  have HA := Aside0.mk (fun W => implAllWords d n W hd3 hn5)
  have HW := Aside0.mk (fun (A : Option Addr) (W : World) (k : Nat) (h : Kd.string.C W A (allW d n).length (allW d n)) (hk : k < nW d n) => str_at h k hk)
  have HAT1 := Aside0.mk (fun W s k1 k2 k3 k4 => implAt g1 v1 d n b1 f1 s W HL.out k1 k2 k3 k4)
  have HAT2 := Aside0.mk (fun W s k1 k2 k3 k4 => implAt g2 v2 d n b2 f2 s W HL.out k1 k2 k3 k4)
  have HAD := Aside0.mk (fun g v (H : Tb) s a b W k1 k2 k3 k4 k5 k6 k7 => implAddTimes g v d n H.2 H.1 s a b W HL.out k1 k2 k3 k4 k5 k6 k7)
  have HEND := Aside0.mk (show timesT d n (f1, b1) (f2, b2) = addsT ((fun _ => (0, 1)), b1 || b2) (timesU f1 f2 ((allW d n).take (nW d n))) by rw [List.take_length]; rfl)
  obtain ⟨N, hN⟩ : ∃ N, N = nW d n := ⟨_, rfl⟩
  rw [← hN] at HT1 HT2 HG hNl HCK HAT1 HAT2 HAD HEND HW
  rw [← hN]
  rw [show (allW d n).length = N from hN.symm] at HA HW
  obtain ⟨l, hll⟩ : ∃ l, l = allW d n := ⟨_, rfl⟩
  have HL2 := Aside0.mk hll
  unfold rowS at HA
  rw [← hll] at HA HW
  have HLN := Aside0.mk (show l.length = N by rw [hll, hN])
  rw [HLN.out] at HA
  clear hN hll
  have HS := Aside0.mk (Sep.refl w)
  cases b1
  case' true =>
    go_enter Tryz.func60, Tryz.ntmps60
    go_wp2_with (first | (go_at_call 110; refine (HCK.out _ (HS.out.oldI HT1.out)).mono ?_; rintro e_ w1 ⟨g', v', rfl, hs⟩; replace HS := sN2 HS hs; clear hs; have f1_ := bx_c (HS.out.oldI HT1.out) 3 (v := .bool true) rfl) | ((with_reducible refine gate_store (t := 4) (p := 25) rfl ?_); refine stL HS 0 3 #[.int .i64 (d : Int), .int .i64 (n : Int), .slice (some ⟨v', 0, none⟩) N N, (.bool true)] rfl rfl rfl rfl rfl ?_; clear HS f1_; intro w1 HS))
    replace HS := sD HS
    refine ps (.p 0 (.p 1 (.p 2 (.p 4 (.p 5 (.p 6 (.p 10 (.t 3 (.t 7 (.d 8 (.p 9 .done))))))))))) (fun w' => w'.cell? ⟨g1, 0, none⟩ = some (.int .i64 (d : Int)) ∧ w'.cell? ⟨g1, 1, none⟩ = some (.int .i64 (n : Int))) [8] ⟨bx_c (HS.out.oldI HT1.out) 0 (v := .int .i64 (d : Int)) rfl, bx_c (HS.out.oldI HT1.out) 1 (v := .int .i64 (n : Int)) rfl⟩ (fun hHeld => ?_)
    repeat (first | ((with_reducible refine gate_p ?_); refine rp rfl rfl ?_) | ((with_reducible refine gate_t ?_); refine rt rfl rfl hHeld ?_))
    refine run_d rfl (fun K hK => ?_)
    refine gc Tryz.func116 (HA.out _) rfl rfl ?_
    rintro e_ w1 ⟨B, b, rfl, hs⟩
    refine ⟨_, rfl, ?_⟩
    replace HS := sN1 HS hs
    clear hs
    refine gd hK ?_
    clear hK K
    repeat (first | ((with_reducible refine gate_p ?_); refine rp rfl rfl ?_) | ((with_reducible refine gate_t ?_); refine rt rfl rfl hHeld ?_))
    refine run_done ?_
    clear hHeld
    go_wp2
  case' false =>
    go_enter Tryz.func60, Tryz.ntmps60
    go_wp2_with (first | (go_at_call 110; refine (HCK.out _ (HS.out.oldI HT1.out)).mono ?_; rintro e_ w1 ⟨g', v', rfl, hs⟩; replace HS := sN2 HS hs; clear hs; have f1_ := bx_c (HS.out.oldI HT1.out) 3 (v := .bool false) rfl; have f2_ := bx_c (HS.out.oldI HT2.out) 3 (v := .bool b2) rfl) | ((with_reducible refine gate_store (t := 4) (p := 25) rfl ?_); refine stL HS 0 3 #[.int .i64 (d : Int), .int .i64 (n : Int), .slice (some ⟨v', 0, none⟩) N N, (.bool b2)] rfl rfl rfl rfl rfl ?_; clear HS f1_ f2_; intro w1 HS))
    replace HS := sD HS
    refine ps (.p 0 (.p 1 (.p 2 (.p 4 (.p 5 (.p 6 (.p 10 (.t 3 (.t 7 (.d 8 (.p 9 .done))))))))))) (fun w' => w'.cell? ⟨g1, 0, none⟩ = some (.int .i64 (d : Int)) ∧ w'.cell? ⟨g1, 1, none⟩ = some (.int .i64 (n : Int))) [8] ⟨bx_c (HS.out.oldI HT1.out) 0 (v := .int .i64 (d : Int)) rfl, bx_c (HS.out.oldI HT1.out) 1 (v := .int .i64 (n : Int)) rfl⟩ (fun hHeld => ?_)
    repeat (first | ((with_reducible refine gate_p ?_); refine rp rfl rfl ?_) | ((with_reducible refine gate_t ?_); refine rt rfl rfl hHeld ?_))
    refine run_d rfl (fun K hK => ?_)
    refine gc Tryz.func116 (HA.out _) rfl rfl ?_
    rintro e_ w1 ⟨B, b, rfl, hs⟩
    refine ⟨_, rfl, ?_⟩
    replace HS := sN1 HS hs
    clear hs
    refine gd hK ?_
    clear hK K
    repeat (first | ((with_reducible refine gate_p ?_); refine rp rfl rfl ?_) | ((with_reducible refine gate_t ?_); refine rt rfl rfl hHeld ?_))
    refine run_done ?_
    clear hHeld
    go_wp2
  all_goals
    go_loopw [36] (fun q w' => ∃ (i : Nat) (H : Tb), i ≤ N ∧ q = .int .i64 (i : Int) ∧ Aside0 (H = addsT ((fun _ => (0, 1)), _) (timesU f1 f2 ((allW d n).take i))) ∧ Aside0 (good H.1) ∧ Aside0 (Mod w w' No [rw' Kd.string rfl 9 (.slice B N b) l, bx g' 60 #[.int .i64 (d : Int), .int .i64 (n : Int), .slice (some ⟨v', 0, none⟩) N N, .bool H.2], tV v' d n H.1])) (fun q _ => N - (intOf q).toNat)
    case atStart => exact ⟨0, ((fun _ => (0, 1)), _), by omega, rfl, ⟨rfl⟩, ⟨good_zero⟩, HS⟩
    case round =>
      clear HS
      obtain ⟨i, H, hi, rfl, HM, HGd, HS⟩ := hrel
      by_cases hlt : i < N
      · obtain ⟨s, hs⟩ := HG.out i hlt
        obtain ⟨ad, ea, h0_⟩ := HW.out B _ i (by have := HS.out.reads 0 rfl; rwa [HLN.out] at this) hlt
        cases ea
        have hs' : l.getD i ByteArray.empty = s := by rw [List.getD_eq_getElem?_getD, HL2.out, hs]; rfl
        rw [hs'] at h0_
        obtain ⟨hw1, hw2, _⟩ := num_at hd9 hs
        have HSW := Aside0.mk hw1
        have HTK := Aside0.mk (show (allW d n).take (i + 1) = (allW d n).take i ++ [s] by rw [List.take_add_one, hs]; rfl)
        have H0 := Aside0.mk h0_
        clear hs hs' h0_ hw1
        have f1_ := H0.out
        go_wp2
        clear H0
        go_loopw [43] (fun q w' => ∃ (k : Nat) (H' : Tb), k ≤ s.size + 1 ∧ q = .int .i64 (k : Int) ∧ Aside0 (H' = addsT H (cutU f1 f2 s k)) ∧ Aside0 (good H'.1) ∧ Aside0 (Mod w w' No [rw' Kd.string rfl 9 (.slice (some ad) N b) l, bx g' 60 #[.int .i64 (d : Int), .int .i64 (n : Int), .slice (some ⟨v', 0, none⟩) N N, .bool H'.2], tV v' d n H'.1])) (fun q _ => s.size + 1 - (intOf q).toNat)
        case atStart => exact ⟨0, H, by omega, rfl, ⟨rfl⟩, HGd, HS⟩
        case round =>
          clear HS
          obtain ⟨k, H', hk, rfl, HM2, HGd2, HS⟩ := hrel
          by_cases hkt : k < s.size + 1
          · have hks : k ≤ s.size := by omega
            have HX1 := Aside0.mk (wl_wd HSW.out k)
            have HX2 := Aside0.mk (wr_wd HSW.out k)
            have hy1 : (s.extract 0 k).size ≤ n := by rw [wl_size (by omega)]; omega
            have hy2 : (s.extract k s.size).size ≤ n := by rw [wr_size]; omega
            go_wp2
            replace HS := sD HS
            apply region_told ((fun (A0_ : Nat → Nat → Act) (a' : Act) (w' : World) => ∃ (g_a : Nat) (g_c : Nat), a' = A0_ g_a g_c ∧ Aside0 (Mod w w' No [bx g_c 37 #[.int .i64 (f2 (s.extract k s.size)).1, .int .i64 (f2 (s.extract k s.size)).2], bx g_a 37 #[.int .i64 (f1 (s.extract 0 k)).1, .int .i64 (f1 (s.extract 0 k)).2], rw' Kd.string rfl 9 (.slice (some ad) N b) l, bx g' 60 #[.int .i64 (d : Int), .int .i64 (n : Int), .slice (some ⟨v', 0, none⟩) N N, .bool H'.2], tV v' d n H'.1])) _)
            case h1 =>
              refine ps (.p 0 (.p 1 (.p 2 (.p 3 (.p 5 (.p 6 (.p 7 (.p 8 (.three 4 10 11 (.three 9 10 11 (.two 10 11 (.e 11 (.e 12 (.e 13 .done))) (.e 10 (.e 12 (.e 13 .done)))) (.two 9 11 (.e 11 (.e 12 (.e 13 .done))) (.e 9 (.e 12 (.e 13 .done)))) (.two 9 10 (.e 10 (.e 12 (.e 13 .done))) (.e 9 (.e 12 (.e 13 .done))))) (.two 4 11 (.two 9 11 (.e 11 (.e 12 (.e 13 .done))) (.e 9 (.e 12 (.e 13 .done)))) (.e 4 (.e 9 (.e 12 (.e 13 .done))))) (.two 4 10 (.two 9 10 (.e 10 (.e 12 (.e 13 .done))) (.e 9 (.e 12 (.e 13 .done)))) (.e 4 (.e 9 (.e 12 (.e 13 .done)))))))))))))) (fun w' => True) [] trivial (fun hHeld => ?_)
              repeat (first | ((with_reducible refine gate_p ?_); refine rp rfl rfl ?_))
              refine run_three ?_ ?_ ?_
              · skip
                refine run_e rfl (fun K hK => ?_)
                refine gc Tryz.func65 (HAT1.out _ (s.extract 0 k) (HS.out.oldI HT1.out) (HS.out.oldI HV1.out) HX1.out hy1) rfl rfl ?_
                rintro e_ w1 ⟨rfl, hb⟩
                refine ⟨_, rfl, ?_⟩
                replace HS := sB HS hb
                refine ge hK trivial (fun hHeld => ?_)
                refine run_three ?_ ?_ ?_
                · skip
                  refine run_e rfl (fun K hK => ?_)
                  refine gc Tryz.func65 (HAT2.out _ (s.extract k s.size) (HS.out.oldI HT2.out) (HS.out.oldI HV2.out) HX2.out hy2) rfl rfl ?_
                  rintro e_ w1 ⟨rfl, hb⟩
                  refine ⟨_, rfl, ?_⟩
                  replace HS := sB HS hb
                  refine ge hK trivial (fun hHeld => ?_)
                  refine run_two ?_ ?_
                  · skip
                    refine run_e rfl (fun K hK => ?_)
                    refine bx1 37 #[(.int .i64 0), (.int .i64 0)] HS ?_
                    intro g_a w1 hg_a HS
                    refine ge hK trivial (fun hHeld => ?_)
                    refine run_e rfl (fun K hK => ?_)
                    refine bx1 37 #[(.int .i64 0), (.int .i64 0)] HS ?_
                    intro g_c w1 hg_c HS
                    refine ge hK trivial (fun hHeld => ?_)
                    refine run_e rfl (fun K hK => ?_)
                    refine st1 HS 1 0 #[.int .i64 (f1 (s.extract 0 k)).1, .int .i64 (f1 (s.extract 0 k)).2] rfl rfl rfl rfl rfl ?_
                    intro w1 HS
                    refine goE hK trivial rfl (fun hHeld => ?_)
                    refine run_e rfl (fun K hK => ?_)
                    refine st1 HS 0 0 #[.int .i64 (f2 (s.extract k s.size)).1, .int .i64 (f2 (s.extract k s.size)).2] rfl rfl rfl rfl rfl ?_
                    intro w1 HS
                    refine goE hK trivial rfl (fun hHeld => ?_)
                    refine run_done ?_
                    exact ⟨g_a, g_c, rfl, HS⟩
                  · skip
                    refine run_e rfl (fun K hK => ?_)
                    refine bx1 37 #[(.int .i64 0), (.int .i64 0)] HS ?_
                    intro g_c w1 hg_c HS
                    refine ge hK trivial (fun hHeld => ?_)
                    refine run_e rfl (fun K hK => ?_)
                    refine bx1 37 #[(.int .i64 0), (.int .i64 0)] HS ?_
                    intro g_a w1 hg_a HS
                    refine ge hK trivial (fun hHeld => ?_)
                    refine run_e rfl (fun K hK => ?_)
                    refine st1 HS 0 0 #[.int .i64 (f1 (s.extract 0 k)).1, .int .i64 (f1 (s.extract 0 k)).2] rfl rfl rfl rfl rfl ?_
                    intro w1 HS
                    refine goE hK trivial rfl (fun hHeld => ?_)
                    refine run_e rfl (fun K hK => ?_)
                    refine st1 HS 1 0 #[.int .i64 (f2 (s.extract k s.size)).1, .int .i64 (f2 (s.extract k s.size)).2] rfl rfl rfl rfl rfl ?_
                    intro w1 HS
                    refine goE hK trivial rfl (fun hHeld => ?_)
                    refine run_done ?_
                    have n_ := HS.out.sel [1, 0, 2, 3, 4] (by decide)
                    simp only [List.filterMap_cons, List.filterMap_nil, List.getElem?_cons_zero, List.getElem?_cons_succ] at n_
                    exact ⟨g_a, g_c, rfl, ⟨n_⟩⟩
                · skip
                  refine run_e rfl (fun K hK => ?_)
                  refine bx1 37 #[(.int .i64 0), (.int .i64 0)] HS ?_
                  intro g_a w1 hg_a HS
                  refine ge hK trivial (fun hHeld => ?_)
                  refine run_two ?_ ?_
                  · skip
                    refine run_e rfl (fun K hK => ?_)
                    refine gc Tryz.func65 (HAT2.out _ (s.extract k s.size) (HS.out.oldI HT2.out) (HS.out.oldI HV2.out) HX2.out hy2) rfl rfl ?_
                    rintro e_ w1 ⟨rfl, hb⟩
                    refine ⟨_, rfl, ?_⟩
                    replace HS := sB HS hb
                    refine ge hK trivial (fun hHeld => ?_)
                    refine run_e rfl (fun K hK => ?_)
                    refine bx1 37 #[(.int .i64 0), (.int .i64 0)] HS ?_
                    intro g_c w1 hg_c HS
                    refine ge hK trivial (fun hHeld => ?_)
                    refine run_e rfl (fun K hK => ?_)
                    refine st1 HS 1 0 #[.int .i64 (f1 (s.extract 0 k)).1, .int .i64 (f1 (s.extract 0 k)).2] rfl rfl rfl rfl rfl ?_
                    intro w1 HS
                    refine goE hK trivial rfl (fun hHeld => ?_)
                    refine run_e rfl (fun K hK => ?_)
                    refine st1 HS 0 0 #[.int .i64 (f2 (s.extract k s.size)).1, .int .i64 (f2 (s.extract k s.size)).2] rfl rfl rfl rfl rfl ?_
                    intro w1 HS
                    refine goE hK trivial rfl (fun hHeld => ?_)
                    refine run_done ?_
                    have n_ := HS.out.sel [0, 1, 2, 3, 4] (by decide)
                    simp only [List.filterMap_cons, List.filterMap_nil, List.getElem?_cons_zero, List.getElem?_cons_succ] at n_
                    exact ⟨g_a, g_c, rfl, ⟨n_⟩⟩
                  · skip
                    refine run_e rfl (fun K hK => ?_)
                    refine bx1 37 #[(.int .i64 0), (.int .i64 0)] HS ?_
                    intro g_c w1 hg_c HS
                    refine ge hK trivial (fun hHeld => ?_)
                    refine run_e rfl (fun K hK => ?_)
                    refine gc Tryz.func65 (HAT2.out _ (s.extract k s.size) (HS.out.oldI HT2.out) (HS.out.oldI HV2.out) HX2.out hy2) rfl rfl ?_
                    rintro e_ w1 ⟨rfl, hb⟩
                    refine ⟨_, rfl, ?_⟩
                    replace HS := sB HS hb
                    refine ge hK trivial (fun hHeld => ?_)
                    refine run_e rfl (fun K hK => ?_)
                    refine st1 HS 1 0 #[.int .i64 (f1 (s.extract 0 k)).1, .int .i64 (f1 (s.extract 0 k)).2] rfl rfl rfl rfl rfl ?_
                    intro w1 HS
                    refine goE hK trivial rfl (fun hHeld => ?_)
                    refine run_e rfl (fun K hK => ?_)
                    refine st1 HS 0 0 #[.int .i64 (f2 (s.extract k s.size)).1, .int .i64 (f2 (s.extract k s.size)).2] rfl rfl rfl rfl rfl ?_
                    intro w1 HS
                    refine goE hK trivial rfl (fun hHeld => ?_)
                    refine run_done ?_
                    have n_ := HS.out.sel [0, 1, 2, 3, 4] (by decide)
                    simp only [List.filterMap_cons, List.filterMap_nil, List.getElem?_cons_zero, List.getElem?_cons_succ] at n_
                    exact ⟨g_a, g_c, rfl, ⟨n_⟩⟩
                · skip
                  refine run_e rfl (fun K hK => ?_)
                  refine bx1 37 #[(.int .i64 0), (.int .i64 0)] HS ?_
                  intro g_c w1 hg_c HS
                  refine ge hK trivial (fun hHeld => ?_)
                  refine run_two ?_ ?_
                  · skip
                    refine run_e rfl (fun K hK => ?_)
                    refine gc Tryz.func65 (HAT2.out _ (s.extract k s.size) (HS.out.oldI HT2.out) (HS.out.oldI HV2.out) HX2.out hy2) rfl rfl ?_
                    rintro e_ w1 ⟨rfl, hb⟩
                    refine ⟨_, rfl, ?_⟩
                    replace HS := sB HS hb
                    refine ge hK trivial (fun hHeld => ?_)
                    refine run_e rfl (fun K hK => ?_)
                    refine bx1 37 #[(.int .i64 0), (.int .i64 0)] HS ?_
                    intro g_a w1 hg_a HS
                    refine ge hK trivial (fun hHeld => ?_)
                    refine run_e rfl (fun K hK => ?_)
                    refine st1 HS 0 0 #[.int .i64 (f1 (s.extract 0 k)).1, .int .i64 (f1 (s.extract 0 k)).2] rfl rfl rfl rfl rfl ?_
                    intro w1 HS
                    refine goE hK trivial rfl (fun hHeld => ?_)
                    refine run_e rfl (fun K hK => ?_)
                    refine st1 HS 1 0 #[.int .i64 (f2 (s.extract k s.size)).1, .int .i64 (f2 (s.extract k s.size)).2] rfl rfl rfl rfl rfl ?_
                    intro w1 HS
                    refine goE hK trivial rfl (fun hHeld => ?_)
                    refine run_done ?_
                    have n_ := HS.out.sel [1, 0, 2, 3, 4] (by decide)
                    simp only [List.filterMap_cons, List.filterMap_nil, List.getElem?_cons_zero, List.getElem?_cons_succ] at n_
                    exact ⟨g_a, g_c, rfl, ⟨n_⟩⟩
                  · skip
                    refine run_e rfl (fun K hK => ?_)
                    refine bx1 37 #[(.int .i64 0), (.int .i64 0)] HS ?_
                    intro g_a w1 hg_a HS
                    refine ge hK trivial (fun hHeld => ?_)
                    refine run_e rfl (fun K hK => ?_)
                    refine gc Tryz.func65 (HAT2.out _ (s.extract k s.size) (HS.out.oldI HT2.out) (HS.out.oldI HV2.out) HX2.out hy2) rfl rfl ?_
                    rintro e_ w1 ⟨rfl, hb⟩
                    refine ⟨_, rfl, ?_⟩
                    replace HS := sB HS hb
                    refine ge hK trivial (fun hHeld => ?_)
                    refine run_e rfl (fun K hK => ?_)
                    refine st1 HS 0 0 #[.int .i64 (f1 (s.extract 0 k)).1, .int .i64 (f1 (s.extract 0 k)).2] rfl rfl rfl rfl rfl ?_
                    intro w1 HS
                    refine goE hK trivial rfl (fun hHeld => ?_)
                    refine run_e rfl (fun K hK => ?_)
                    refine st1 HS 1 0 #[.int .i64 (f2 (s.extract k s.size)).1, .int .i64 (f2 (s.extract k s.size)).2] rfl rfl rfl rfl rfl ?_
                    intro w1 HS
                    refine goE hK trivial rfl (fun hHeld => ?_)
                    refine run_done ?_
                    have n_ := HS.out.sel [1, 0, 2, 3, 4] (by decide)
                    simp only [List.filterMap_cons, List.filterMap_nil, List.getElem?_cons_zero, List.getElem?_cons_succ] at n_
                    exact ⟨g_a, g_c, rfl, ⟨n_⟩⟩
              · skip
                refine run_e rfl (fun K hK => ?_)
                refine bx1 37 #[(.int .i64 0), (.int .i64 0)] HS ?_
                intro g_a w1 hg_a HS
                refine ge hK trivial (fun hHeld => ?_)
                refine run_two ?_ ?_
                · skip
                  refine run_e rfl (fun K hK => ?_)
                  refine gc Tryz.func65 (HAT1.out _ (s.extract 0 k) (HS.out.oldI HT1.out) (HS.out.oldI HV1.out) HX1.out hy1) rfl rfl ?_
                  rintro e_ w1 ⟨rfl, hb⟩
                  refine ⟨_, rfl, ?_⟩
                  replace HS := sB HS hb
                  refine ge hK trivial (fun hHeld => ?_)
                  refine run_two ?_ ?_
                  · skip
                    refine run_e rfl (fun K hK => ?_)
                    refine gc Tryz.func65 (HAT2.out _ (s.extract k s.size) (HS.out.oldI HT2.out) (HS.out.oldI HV2.out) HX2.out hy2) rfl rfl ?_
                    rintro e_ w1 ⟨rfl, hb⟩
                    refine ⟨_, rfl, ?_⟩
                    replace HS := sB HS hb
                    refine ge hK trivial (fun hHeld => ?_)
                    refine run_e rfl (fun K hK => ?_)
                    refine bx1 37 #[(.int .i64 0), (.int .i64 0)] HS ?_
                    intro g_c w1 hg_c HS
                    refine ge hK trivial (fun hHeld => ?_)
                    refine run_e rfl (fun K hK => ?_)
                    refine st1 HS 1 0 #[.int .i64 (f1 (s.extract 0 k)).1, .int .i64 (f1 (s.extract 0 k)).2] rfl rfl rfl rfl rfl ?_
                    intro w1 HS
                    refine goE hK trivial rfl (fun hHeld => ?_)
                    refine run_e rfl (fun K hK => ?_)
                    refine st1 HS 0 0 #[.int .i64 (f2 (s.extract k s.size)).1, .int .i64 (f2 (s.extract k s.size)).2] rfl rfl rfl rfl rfl ?_
                    intro w1 HS
                    refine goE hK trivial rfl (fun hHeld => ?_)
                    refine run_done ?_
                    have n_ := HS.out.sel [0, 1, 2, 3, 4] (by decide)
                    simp only [List.filterMap_cons, List.filterMap_nil, List.getElem?_cons_zero, List.getElem?_cons_succ] at n_
                    exact ⟨g_a, g_c, rfl, ⟨n_⟩⟩
                  · skip
                    refine run_e rfl (fun K hK => ?_)
                    refine bx1 37 #[(.int .i64 0), (.int .i64 0)] HS ?_
                    intro g_c w1 hg_c HS
                    refine ge hK trivial (fun hHeld => ?_)
                    refine run_e rfl (fun K hK => ?_)
                    refine gc Tryz.func65 (HAT2.out _ (s.extract k s.size) (HS.out.oldI HT2.out) (HS.out.oldI HV2.out) HX2.out hy2) rfl rfl ?_
                    rintro e_ w1 ⟨rfl, hb⟩
                    refine ⟨_, rfl, ?_⟩
                    replace HS := sB HS hb
                    refine ge hK trivial (fun hHeld => ?_)
                    refine run_e rfl (fun K hK => ?_)
                    refine st1 HS 1 0 #[.int .i64 (f1 (s.extract 0 k)).1, .int .i64 (f1 (s.extract 0 k)).2] rfl rfl rfl rfl rfl ?_
                    intro w1 HS
                    refine goE hK trivial rfl (fun hHeld => ?_)
                    refine run_e rfl (fun K hK => ?_)
                    refine st1 HS 0 0 #[.int .i64 (f2 (s.extract k s.size)).1, .int .i64 (f2 (s.extract k s.size)).2] rfl rfl rfl rfl rfl ?_
                    intro w1 HS
                    refine goE hK trivial rfl (fun hHeld => ?_)
                    refine run_done ?_
                    have n_ := HS.out.sel [0, 1, 2, 3, 4] (by decide)
                    simp only [List.filterMap_cons, List.filterMap_nil, List.getElem?_cons_zero, List.getElem?_cons_succ] at n_
                    exact ⟨g_a, g_c, rfl, ⟨n_⟩⟩
                · skip
                  refine run_e rfl (fun K hK => ?_)
                  refine bx1 37 #[(.int .i64 0), (.int .i64 0)] HS ?_
                  intro g_c w1 hg_c HS
                  refine ge hK trivial (fun hHeld => ?_)
                  refine run_e rfl (fun K hK => ?_)
                  refine gc Tryz.func65 (HAT1.out _ (s.extract 0 k) (HS.out.oldI HT1.out) (HS.out.oldI HV1.out) HX1.out hy1) rfl rfl ?_
                  rintro e_ w1 ⟨rfl, hb⟩
                  refine ⟨_, rfl, ?_⟩
                  replace HS := sB HS hb
                  refine ge hK trivial (fun hHeld => ?_)
                  refine run_e rfl (fun K hK => ?_)
                  refine gc Tryz.func65 (HAT2.out _ (s.extract k s.size) (HS.out.oldI HT2.out) (HS.out.oldI HV2.out) HX2.out hy2) rfl rfl ?_
                  rintro e_ w1 ⟨rfl, hb⟩
                  refine ⟨_, rfl, ?_⟩
                  replace HS := sB HS hb
                  refine ge hK trivial (fun hHeld => ?_)
                  refine run_e rfl (fun K hK => ?_)
                  refine st1 HS 1 0 #[.int .i64 (f1 (s.extract 0 k)).1, .int .i64 (f1 (s.extract 0 k)).2] rfl rfl rfl rfl rfl ?_
                  intro w1 HS
                  refine goE hK trivial rfl (fun hHeld => ?_)
                  refine run_e rfl (fun K hK => ?_)
                  refine st1 HS 0 0 #[.int .i64 (f2 (s.extract k s.size)).1, .int .i64 (f2 (s.extract k s.size)).2] rfl rfl rfl rfl rfl ?_
                  intro w1 HS
                  refine goE hK trivial rfl (fun hHeld => ?_)
                  refine run_done ?_
                  have n_ := HS.out.sel [0, 1, 2, 3, 4] (by decide)
                  simp only [List.filterMap_cons, List.filterMap_nil, List.getElem?_cons_zero, List.getElem?_cons_succ] at n_
                  exact ⟨g_a, g_c, rfl, ⟨n_⟩⟩
              · skip
                refine run_e rfl (fun K hK => ?_)
                refine bx1 37 #[(.int .i64 0), (.int .i64 0)] HS ?_
                intro g_c w1 hg_c HS
                refine ge hK trivial (fun hHeld => ?_)
                refine run_two ?_ ?_
                · skip
                  refine run_e rfl (fun K hK => ?_)
                  refine gc Tryz.func65 (HAT1.out _ (s.extract 0 k) (HS.out.oldI HT1.out) (HS.out.oldI HV1.out) HX1.out hy1) rfl rfl ?_
                  rintro e_ w1 ⟨rfl, hb⟩
                  refine ⟨_, rfl, ?_⟩
                  replace HS := sB HS hb
                  refine ge hK trivial (fun hHeld => ?_)
                  refine run_two ?_ ?_
                  · skip
                    refine run_e rfl (fun K hK => ?_)
                    refine gc Tryz.func65 (HAT2.out _ (s.extract k s.size) (HS.out.oldI HT2.out) (HS.out.oldI HV2.out) HX2.out hy2) rfl rfl ?_
                    rintro e_ w1 ⟨rfl, hb⟩
                    refine ⟨_, rfl, ?_⟩
                    replace HS := sB HS hb
                    refine ge hK trivial (fun hHeld => ?_)
                    refine run_e rfl (fun K hK => ?_)
                    refine bx1 37 #[(.int .i64 0), (.int .i64 0)] HS ?_
                    intro g_a w1 hg_a HS
                    refine ge hK trivial (fun hHeld => ?_)
                    refine run_e rfl (fun K hK => ?_)
                    refine st1 HS 0 0 #[.int .i64 (f1 (s.extract 0 k)).1, .int .i64 (f1 (s.extract 0 k)).2] rfl rfl rfl rfl rfl ?_
                    intro w1 HS
                    refine goE hK trivial rfl (fun hHeld => ?_)
                    refine run_e rfl (fun K hK => ?_)
                    refine st1 HS 1 0 #[.int .i64 (f2 (s.extract k s.size)).1, .int .i64 (f2 (s.extract k s.size)).2] rfl rfl rfl rfl rfl ?_
                    intro w1 HS
                    refine goE hK trivial rfl (fun hHeld => ?_)
                    refine run_done ?_
                    have n_ := HS.out.sel [1, 0, 2, 3, 4] (by decide)
                    simp only [List.filterMap_cons, List.filterMap_nil, List.getElem?_cons_zero, List.getElem?_cons_succ] at n_
                    exact ⟨g_a, g_c, rfl, ⟨n_⟩⟩
                  · skip
                    refine run_e rfl (fun K hK => ?_)
                    refine bx1 37 #[(.int .i64 0), (.int .i64 0)] HS ?_
                    intro g_a w1 hg_a HS
                    refine ge hK trivial (fun hHeld => ?_)
                    refine run_e rfl (fun K hK => ?_)
                    refine gc Tryz.func65 (HAT2.out _ (s.extract k s.size) (HS.out.oldI HT2.out) (HS.out.oldI HV2.out) HX2.out hy2) rfl rfl ?_
                    rintro e_ w1 ⟨rfl, hb⟩
                    refine ⟨_, rfl, ?_⟩
                    replace HS := sB HS hb
                    refine ge hK trivial (fun hHeld => ?_)
                    refine run_e rfl (fun K hK => ?_)
                    refine st1 HS 0 0 #[.int .i64 (f1 (s.extract 0 k)).1, .int .i64 (f1 (s.extract 0 k)).2] rfl rfl rfl rfl rfl ?_
                    intro w1 HS
                    refine goE hK trivial rfl (fun hHeld => ?_)
                    refine run_e rfl (fun K hK => ?_)
                    refine st1 HS 1 0 #[.int .i64 (f2 (s.extract k s.size)).1, .int .i64 (f2 (s.extract k s.size)).2] rfl rfl rfl rfl rfl ?_
                    intro w1 HS
                    refine goE hK trivial rfl (fun hHeld => ?_)
                    refine run_done ?_
                    have n_ := HS.out.sel [1, 0, 2, 3, 4] (by decide)
                    simp only [List.filterMap_cons, List.filterMap_nil, List.getElem?_cons_zero, List.getElem?_cons_succ] at n_
                    exact ⟨g_a, g_c, rfl, ⟨n_⟩⟩
                · skip
                  refine run_e rfl (fun K hK => ?_)
                  refine bx1 37 #[(.int .i64 0), (.int .i64 0)] HS ?_
                  intro g_a w1 hg_a HS
                  refine ge hK trivial (fun hHeld => ?_)
                  refine run_e rfl (fun K hK => ?_)
                  refine gc Tryz.func65 (HAT1.out _ (s.extract 0 k) (HS.out.oldI HT1.out) (HS.out.oldI HV1.out) HX1.out hy1) rfl rfl ?_
                  rintro e_ w1 ⟨rfl, hb⟩
                  refine ⟨_, rfl, ?_⟩
                  replace HS := sB HS hb
                  refine ge hK trivial (fun hHeld => ?_)
                  refine run_e rfl (fun K hK => ?_)
                  refine gc Tryz.func65 (HAT2.out _ (s.extract k s.size) (HS.out.oldI HT2.out) (HS.out.oldI HV2.out) HX2.out hy2) rfl rfl ?_
                  rintro e_ w1 ⟨rfl, hb⟩
                  refine ⟨_, rfl, ?_⟩
                  replace HS := sB HS hb
                  refine ge hK trivial (fun hHeld => ?_)
                  refine run_e rfl (fun K hK => ?_)
                  refine st1 HS 0 0 #[.int .i64 (f1 (s.extract 0 k)).1, .int .i64 (f1 (s.extract 0 k)).2] rfl rfl rfl rfl rfl ?_
                  intro w1 HS
                  refine goE hK trivial rfl (fun hHeld => ?_)
                  refine run_e rfl (fun K hK => ?_)
                  refine st1 HS 1 0 #[.int .i64 (f2 (s.extract k s.size)).1, .int .i64 (f2 (s.extract k s.size)).2] rfl rfl rfl rfl rfl ?_
                  intro w1 HS
                  refine goE hK trivial rfl (fun hHeld => ?_)
                  refine run_done ?_
                  have n_ := HS.out.sel [1, 0, 2, 3, 4] (by decide)
                  simp only [List.filterMap_cons, List.filterMap_nil, List.getElem?_cons_zero, List.getElem?_cons_succ] at n_
                  exact ⟨g_a, g_c, rfl, ⟨n_⟩⟩
            clear HS
            rintro a_ w1 ⟨g_a, g_c, rfl, HS⟩
            by_cases hz1 : (f1 (s.extract 0 k)).1 = 0
            · have hb1 : ((f1 (s.extract 0 k)).1 != 0) = false := by rw [hz1]; rfl
              have HZ := Aside0.mk (cutU_skip (f := f1) (g := f2) (s := s) (k := k) (.inl hz1))
              clear hz1
              have f1_ := HS.out.c 1 0 (v := .int .i64 (f1 (s.extract 0 k)).1) rfl rfl
              go_wp2
              replace HS : Aside0 (Mod _ _ _ [_, _, _]) := sX HS [2, 3, 4]
              go_roundw
              case rel => exact ⟨k + 1, H', by omega, by go_num, ⟨by rw [HZ.out]; exact HM2.out⟩, HGd2, HS⟩
              case measure => simp [intOf]; omega
            · have hb1 : ((f1 (s.extract 0 k)).1 != 0) = true := by simpa using hz1
              by_cases hz2 : (f2 (s.extract k s.size)).1 = 0
              · have hb2 : ((f2 (s.extract k s.size)).1 != 0) = false := by rw [hz2]; rfl
                have HZ := Aside0.mk (cutU_skip (f := f1) (g := f2) (s := s) (k := k) (.inr hz2))
                clear hz1 hz2
                have f1_ := HS.out.c 1 0 (v := .int .i64 (f1 (s.extract 0 k)).1) rfl rfl
                have f2_ := HS.out.c 0 0 (v := .int .i64 (f2 (s.extract k s.size)).1) rfl rfl
                go_wp2
                replace HS : Aside0 (Mod _ _ _ [_, _, _]) := sX HS [2, 3, 4]
                go_roundw
                case rel => exact ⟨k + 1, H', by omega, by go_num, ⟨by rw [HZ.out]; exact HM2.out⟩, HGd2, HS⟩
                case measure => simp [intOf]; omega
              · have hb2 : ((f2 (s.extract k s.size)).1 != 0) = true := by simpa using hz2
                have HZ := Aside0.mk (cutU_take (f := f1) (g := f2) (s := s) (k := k) hz1 hz2)
                clear hz1 hz2
                have f1_ := HS.out.c 1 0 (v := .int .i64 (f1 (s.extract 0 k)).1) rfl rfl
                have f2_ := HS.out.c 0 0 (v := .int .i64 (f2 (s.extract k s.size)).1) rfl rfl
                have f3_ := HS.out.c 1 1 (v := .int .i64 (f1 (s.extract 0 k)).2) rfl rfl
                have f4_ := HS.out.c 0 1 (v := .int .i64 (f2 (s.extract k s.size)).2) rfl rfl
                go_wp2_with (first | (go_at_call 66; refine (HAD.out g' v' H' s (f1 (s.extract 0 k)) (f2 (s.extract k s.size)) _ (HS.out.at (i := 3) rfl) (HS.out.at (i := 4) rfl) HSW.out hw2 (HGd2.out _) (HF1.out _) (HF2.out _)).mono ?_; rintro e_ w1 ⟨rfl, hs⟩; replace HS : Aside0 (Mod _ _ _ [_, _, _, _, _]) := sM2 HS 3 4 [0, 1, 2] rfl rfl hs; clear hs f1_ f2_ f3_ f4_))
                go_roundw
                case rel => exact ⟨k + 1, addT (H'.1, H'.2) (s, mul (f1 (s.extract 0 k)) (f2 (s.extract k s.size))), by omega, by go_num, ⟨by rw [HZ.out]; unfold addsT; rw [List.foldl_append, show List.foldl addT H (cutU f1 f2 s k) = H' from HM2.out.symm]; rfl⟩, ⟨addT_good HGd2.out fun a ha => mul_fr ha⟩, sX HS [4, 0, 1]⟩
                case measure => simp [intOf]; omega
          · obtain rfl : k = s.size + 1 := by omega
            go_wp2
            go_roundw
            case rel => exact ⟨i + 1, H', by omega, by go_num, ⟨by rw [HTK.out, timesU_snoc]; unfold addsT; rw [List.foldl_append]; exact (show H' = addsT H (cutU f1 f2 s (s.size + 1)) from HM2.out).trans (by rw [HM.out]; rfl)⟩, HGd2, sX HS [0, 1, 2]⟩
            case measure => simp [intOf]; omega
      · obtain rfl : i = N := by omega
        go_wp2
        go_ret
        obtain rfl := HM.out
        exact ⟨g', v', rfl, HEND.out ▸ HS.out.sel [1, 2] (by decide)⟩
end Go.Proofs.YtibjkjhpfmmjoaaGreat.H



namespace Go.Proofs.YtibjkjhpfmmjoaaGreat.M
theorem rel_self {d n : Nat} {l : Ts} (h : isTs d n l = true) : Rel d n (some l) (co l, false) := .inr ⟨l, rfl, rfl, h, fun _ _ _ => rfl⟩
theorem rel_zero (d n : Nat) : Rel d n (some []) ((fun _ => (0, 1)), false) := .inr ⟨[], rfl, rfl, isTs_nil d n, fun w _ _ => co_nil w⟩
theorem unit_co : co unitT = upd (fun _ => (0, 1)) eps (1, 1) := by
  funext w
  rw [co_cons]
  unfold upd
  by_cases h : w = eps
  · subst h; rfl
  · rw [if_neg (fun e => h e.symm), if_neg h]; rfl
end Go.Proofs.YtibjkjhpfmmjoaaGreat.M
namespace Go.Proofs.YtibjkjhpfmmjoaaGreat.H
open Go.RowKit Go.Proofs.YtibjkjhpfmmjoaaGreatW.PrintWords Go.Proofs.YtibjkjhpfmmjoaaGreatW.PrintLast Go.Proofs.YtibjkjhpfmmjoaaGreatW.PrintMore Go.Proofs.YtibjkjhpfmmjoaaGreat.M
attribute [local go_sem] max2_int min2_int max_two min_two max_three min_three max_four min_four
set_option linter.unusedVariables false
set_option linter.unusedSimpArgs false
set_option maxRecDepth 100000
def RetT (w : World) (d n : Nat) (o : Option Ts) (e : Ending) (w' : World) : Prop := ∃ g v F, e = .returned (.pointer (some ⟨g, 0, none⟩)) ∧ good F.1 ∧ Rel d n o F ∧ Sep w w' [tS g v d n (nW d n) F.2, tV v d n F.1]
def TabI (W : World) (g v d n : Nat) (F : Tb) (o : Option Ts) : Prop := good F.1 ∧ Rel d n o F ∧ (tS g v d n (nW d n) F.2).I W ∧ (tV v d n F.1).I W
variable {w : World} {d n g v g1 v1 g2 v2 : Nat} {F F1 F2 : Tb} {o o1 o2 : Option Ts}
theorem lev9 (hl : lev d n = true) : d ≤ 9 := by have := lev_bd hl; omega
theorem tabOpen (A : Option Addr) (c : Nat) (l : Ts) (w : World) (hl : lev d n = true) (hr : KT.C w A l.length l) (hts : isTs d n l = true) : Calls Tryz.prog 39 #[.agg #[.int .i64 (d : Int), .int .i64 (n : Int), .slice A l.length c]] w (RetT w d n (some l)) :=
  (implOpen d n A c l w hl hr hts).mono fun e w' h => by obtain ⟨g, v, he, hs⟩ := h; exact ⟨g, v, (co l, false), he, good_co hts, rel_self hts, hs⟩
theorem tabLike (hl : lev d n = true) (h : TabI w g v d n F o) : Calls Tryz.prog 110 #[.pointer (some ⟨g, 0, none⟩)] w (RetT w d n (some [])) :=
  (implLike g v d n (nW d n) F.2 w hl h.2.2.1).mono fun e w' h => by obtain ⟨g, v, he, hs⟩ := h; exact ⟨g, v, _, he, good_zero, rel_zero d n, hs⟩
theorem tabUnit (hl : lev d n = true) (h : TabI w g v d n F o) : Calls Tryz.prog 63 #[.pointer (some ⟨g, 0, none⟩)] w (RetT w d n (some unitT)) :=
  (implUnit g v d n (nW d n) F.2 w hl h.2.2.1).mono fun e w' h => by obtain ⟨g, v, he, hs⟩ := h; exact ⟨g, v, (co unitT, false), he, good_co (unit_ts d n), rel_self (unit_ts d n), by rw [unit_co]; exact hs⟩
theorem tabSum (hl : lev d n = true) (h1 : TabI w g1 v1 d n F1 o1) (h2 : TabI w g2 v2 d n F2 o2) : Calls Tryz.prog 112 #[.pointer (some ⟨g1, 0, none⟩), .pointer (some ⟨g2, 0, none⟩)] w (RetT w d n (two sumS o1 o2)) :=
  (implSum g1 v1 g2 v2 d n F1.2 F2.2 F1.1 F2.1 w hl h1.2.2.1 h1.2.2.2 h2.2.2.1 h2.2.2.2 h1.1 h2.1).mono fun e w' h => by obtain ⟨g, v, he, hs⟩ := h; exact ⟨g, v, _, he, mapT_good (fun s c h => add_fr h) _ _, sum_relT (lev9 hl) h1.2.1 h2.2.1, hs⟩
theorem tabScaled (hl : lev d n = true) (h : TabI w g v d n F o) {a : Fr} (ha : fr a = true) : Calls Tryz.prog 53 #[.pointer (some ⟨g, 0, none⟩), .agg #[.int .i64 a.1, .int .i64 a.2]] w (RetT w d n (o.bind fun x => scS x a)) :=
  (implScaled g v d n F.2 F.1 a w hl h.2.2.1 h.2.2.2 h.1 ha).mono fun e w' hh => by obtain ⟨g, v, he, hs⟩ := hh; exact ⟨g, v, _, he, mapT_good (fun s c h => mul_fr h) _ _, scale_relT (lev9 hl) h.2.1 ha, hs⟩
theorem tabTold (hl : lev d n = true) (h : TabI w g v d n F o) : Calls Tryz.prog 41 #[.pointer (some ⟨g, 0, none⟩)] w (RetS w (resO d n o)) :=
  (Rel.told (lev9 hl) h.1 h.2.1) ▸ implTold g v d n F.2 F.1 w hl h.2.2.1 h.2.2.2
theorem TabI.old {w W : World} {d n g v : Nat} {F : Tb} {o : Option Ts} {L : List As} (h : TabI w g v d n F o) (HS : Mod w W No L) : TabI W g v d n F o := ⟨h.1, h.2.1, HS.oldI h.2.2.1, HS.oldI h.2.2.2⟩
end Go.Proofs.YtibjkjhpfmmjoaaGreat.H
namespace Go.Proofs.YtibjkjhpfmmjoaaGreat.H
open Go.RowKit Go.Proofs.YtibjkjhpfmmjoaaGreatW.PrintWords Go.Proofs.YtibjkjhpfmmjoaaGreatW.PrintLast Go.Proofs.YtibjkjhpfmmjoaaGreatW.PrintMore Go.Proofs.YtibjkjhpfmmjoaaGreat.M
variable {w : World} {d n g1 v1 g2 v2 : Nat} {F1 F2 : Tb} {o1 o2 : Option Ts}
theorem tabTimes (hl : lev d n = true) (h1 : TabI w g1 v1 d n F1 o1) (h2 : TabI w g2 v2 d n F2 o2) : Calls Tryz.prog 60 #[.pointer (some ⟨g1, 0, none⟩), .pointer (some ⟨g2, 0, none⟩)] w (RetT w d n (two (mulS d n) o1 o2)) :=
  (implTimesTab g1 v1 g2 v2 d n F1.2 F2.2 F1.1 F2.1 w hl h1.2.2.1 h1.2.2.2 h2.2.2.1 h2.2.2.2 h1.1 h2.1).mono fun e w' h => by obtain ⟨g, v, he, hs⟩ := h; exact ⟨g, v, _, he, timesT_good, times_relT (lev9 hl) h1.2.1 h2.2.1, hs⟩
end Go.Proofs.YtibjkjhpfmmjoaaGreat.H


