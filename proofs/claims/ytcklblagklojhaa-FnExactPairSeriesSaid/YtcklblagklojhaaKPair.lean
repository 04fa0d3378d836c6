/- Pairings: what the program and the reference return. Conditions: the bounds that stand in each statement. -/
import Derived.Test.YtcklblagklojhaaKShufP
import Derived.Test.YtcklblagklojhaaKCode
import Derived.Test.YtcklblagklojhaaKTable
import Derived.Test.YtcklblagklojhaaKBasic
import Derived.Test.YtcklblagklojhaaKTab
namespace Go.Proofs.Ytcklblagklojhaa.M
theorem acc_snoc (U : List (Option Fr)) (p : Option Fr) : accS (U ++ [p]) = (accS U).bind fun s => p.bind (add s) := by
  unfold accS
  rw [List.foldlM_append]
  show ((List.foldlM (fun s p => p.bind (add s)) (0, 1) U) >>= fun s => List.foldlM (fun s p => p.bind (add s)) s [p]) = _
  cases List.foldlM (fun s p => p.bind (add s)) ((0, 1) : Fr) U with
  | none => rfl
  | some s =>
    show List.foldlM (fun s p => p.bind (add s)) s [p] = p.bind (add s)
    rw [List.foldlM_cons]
    cases p.bind (add s) <;> rfl
theorem acc_bad {U V : List (Option Fr)} (h : accS U = none) : accS (U ++ V) = none := by
  unfold accS at *
  rw [List.foldlM_append, h]
  rfl
theorem acc_fr {U : List (Option Fr)} : ∀ {c : Fr}, accS U = some c → fr c = true := by
  have gen : ∀ (U : List (Option Fr)) (s c : Fr), fr s = true → U.foldlM (fun s p => p.bind (add s)) s = some c → fr c = true := by
    intro U
    induction U with
    | nil => intro s c hs h; have : s = c := by simpa using h
             rw [← this]; exact hs
    | cons p U ih =>
      intro s c hs h
      rw [List.foldlM_cons] at h
      cases p with
      | none => cases h
      | some a =>
        cases ha : add s a with
        | none => simp only [Option.bind_some, ha] at h; cases h
        | some b =>
          simp only [Option.bind_some, ha] at h
          exact ih b c (add_fr ha) h
  intro c h
  exact gen U (0, 1) c fr_zero h
theorem pairU_next {x y : Ts} {i : Nat} {t : Tm} (h : x[i]? = some t) : pairU (x.take (i + 1)) y = pairU (x.take i) y ++ (if (co y t.1).1 = 0 then [] else [mul t.2 (co y t.1)]) := by
  unfold pairU
  rw [List.take_add_one, h, List.filterMap_append]
  congr 1
  show List.filterMap _ [t] = _
  by_cases h0 : (co y t.1).1 = 0 <;> simp [h0]
theorem pairU_split (x y : Ts) (i : Nat) : ∃ V, pairU x y = pairU (x.take i) y ++ V := by
  refine ⟨pairU (x.drop i) y, ?_⟩
  unfold pairU
  rw [← List.filterMap_append, List.take_append_drop]
def resF : Option Fr → Rf
  | none => (0, 0, 3)
  | some c => (c.1, c.2, 0)
def pairR (d n : Int) (l : Ts) (d2 n2 : Int) (l2 : Ts) : Rf := if codeR d n l d2 n2 l2 = 0 then resF (pairS l l2) else (0, 0, codeR d n l d2 n2 l2)
theorem pair_end (x y : Ts) : (pairS x y = none ∧ (addsT ((fun _ => (0, 1)), false) ((pairU x y).map fun p => (eps, p))).2 = true) ∨ ∃ c, pairS x y = some c ∧ (addsT ((fun _ => (0, 1)), false) ((pairU x y).map fun p => (eps, p))).2 = false ∧ (addsT ((fun _ => (0, 1)), false) ((pairU x y).map fun p => (eps, p))).1 eps = c :=
  acc_adds eps (pairU x y) (fun _ => (0, 1)) (0, 1) rfl
end Go.Proofs.Ytcklblagklojhaa.M
namespace Go.Proofs.Ytcklblagklojhaa.H
open Go.RowKit Go.Proofs.YtcklblagklojhaaW.PrintWords Go.Proofs.YtcklblagklojhaaW.PrintLast Go.Proofs.YtcklblagklojhaaW.PrintMore Go.Proofs.Ytcklblagklojhaa.M
attribute [local go_sem] max2_int min2_int max_two min_two max_three min_three max_four min_four
set_option linter.unusedVariables false
set_option linter.unusedSimpArgs false
set_option maxRecDepth 100000
theorem specToYes (x y : Int) (w : World) : Calls Try.prog 93 #[.agg #[.int .i64 x, .int .i64 y], .bool true] w (RetF w (x, y, 0)) := by
  have HS := Aside0.mk (Sep.refl w)
  go_enter Try.func93, Try.ntmps93
  go_wp2_with (first | ((with_reducible refine gate_dst (N := 2) rfl ?_); refine bxL 24 #[.int .i64 x, .int .i64 y] HS ?_; clear HS; intro g_p w1 hg_p HS) | ((with_reducible refine gate_dst (N := 4) rfl ?_); refine bxL 24 #[(.int .i64 0), (.int .i64 0)] HS ?_; clear HS; intro g_r w1 hg_r HS; have f1_ := HS.out.c 1 0 (v := .int .i64 x) rfl rfl; have f2_ := HS.out.c 1 1 (v := .int .i64 y) rfl rfl) | ((with_reducible refine gate_store (t := 24) (p := 4) rfl ?_); refine stL HS 0 0 #[.int .i64 x, .int .i64 y] rfl rfl rfl rfl rfl ?_; clear HS f1_ f2_; intro w1 HS))
  refine bodyPost_ret (results_cell_tmp_row rfl _ _ g_r 24 #[.int .i64 x, .int .i64 y] (0, 0) _ rfl (HS.out.at (i := 0) rfl) Try.underlying24 rfl (by kernel_rfl)) rfl ?_
  exact ⟨rfl, HS.out.below⟩
theorem specToNo (x y : Int) (w : World) : Calls Try.prog 93 #[.agg #[.int .i64 x, .int .i64 y], .bool false] w (RetF w (0, 0, 3)) := by
  have HS := Aside0.mk (Sep.refl w)
  go_enter Try.func93, Try.ntmps93
  go_wp2_with (first | ((with_reducible refine gate_dst (N := 2) rfl ?_); refine bxL 24 #[.int .i64 x, .int .i64 y] HS ?_; clear HS; intro g_p w1 hg_p HS) | ((with_reducible refine gate_dst (N := 4) rfl ?_); refine bxL 24 #[(.int .i64 0), (.int .i64 0)] HS ?_; clear HS; intro g_r w1 hg_r HS) | ((with_reducible refine gate_store (t := 24) (p := 4) rfl ?_); refine stL HS 0 0 #[(.int .i64 0), (.int .i64 0)] rfl rfl rfl rfl rfl ?_; clear HS; intro w1 HS))
  refine bodyPost_ret (results_cell_tmp_row rfl _ _ g_r 24 #[(.int .i64 0), (.int .i64 0)] (0, 0) _ rfl (HS.out.at (i := 0) rfl) Try.underlying24 rfl (by kernel_rfl)) rfl ?_
  exact ⟨rfl, HS.out.below⟩
theorem implToYes (x y : Int) (w : World) : Calls Try.prog 96 #[.agg #[.int .i64 x, .int .i64 y], .bool true] w (RetF w (x, y, 0)) := by
  have HS := Aside0.mk (Sep.refl w)
  go_enter Try.func96, Try.ntmps96
  go_wp2_with (first | ((with_reducible refine gate_dst (N := 2) rfl ?_); refine bxL 24 #[.int .i64 x, .int .i64 y] HS ?_; clear HS; intro g_p w1 hg_p HS) | ((with_reducible refine gate_dst (N := 4) rfl ?_); refine bxL 24 #[(.int .i64 0), (.int .i64 0)] HS ?_; clear HS; intro g_r w1 hg_r HS; have f1_ := HS.out.c 1 0 (v := .int .i64 x) rfl rfl; have f2_ := HS.out.c 1 1 (v := .int .i64 y) rfl rfl) | ((with_reducible refine gate_store (t := 24) (p := 4) rfl ?_); refine stL HS 0 0 #[.int .i64 x, .int .i64 y] rfl rfl rfl rfl rfl ?_; clear HS f1_ f2_; intro w1 HS))
  refine bodyPost_ret (results_cell_tmp_row rfl _ _ g_r 24 #[.int .i64 x, .int .i64 y] (0, 0) _ rfl (HS.out.at (i := 0) rfl) Try.underlying24 rfl (by kernel_rfl)) rfl ?_
  exact ⟨rfl, HS.out.below⟩
theorem implToNo (x y : Int) (w : World) : Calls Try.prog 96 #[.agg #[.int .i64 x, .int .i64 y], .bool false] w (RetF w (0, 0, 3)) := by
  have HS := Aside0.mk (Sep.refl w)
  go_enter Try.func96, Try.ntmps96
  go_wp2_with (first | ((with_reducible refine gate_dst (N := 2) rfl ?_); refine bxL 24 #[.int .i64 x, .int .i64 y] HS ?_; clear HS; intro g_p w1 hg_p HS) | ((with_reducible refine gate_dst (N := 4) rfl ?_); refine bxL 24 #[(.int .i64 0), (.int .i64 0)] HS ?_; clear HS; intro g_r w1 hg_r HS) | ((with_reducible refine gate_store (t := 24) (p := 4) rfl ?_); refine stL HS 0 0 #[(.int .i64 0), (.int .i64 0)] rfl rfl rfl rfl rfl ?_; clear HS; intro w1 HS))
  refine bodyPost_ret (results_cell_tmp_row rfl _ _ g_r 24 #[(.int .i64 0), (.int .i64 0)] (0, 0) _ rfl (HS.out.at (i := 0) rfl) Try.underlying24 rfl (by kernel_rfl)) rfl ?_
  exact ⟨rfl, HS.out.below⟩
theorem tv_eps {w : World} {v d n : Nat} {f : ByteArray → Fr} {c : Fr} (h : (tV v d n f).I w) (hc : f eps = c) : w.cell? ⟨v, 0, none⟩ = some (.int .i64 c.1) ∧ w.cell? ⟨v, 1, none⟩ = some (.int .i64 c.2) := by
  have := tab_at (s := eps) h (by rfl) (Nat.zero_le _)
  rw [hc] at this
  exact ⟨this.1, this.2.1⟩
/-- A fraction and whether it fits. -/
def RetFQ (w : World) (o : Option Fr) (e : Ending) (w' : World) : Prop := e = .returned (.tuple #[.agg #[.int .i64 (sfrac o).1.1, .int .i64 (sfrac o).1.2], .bool (sfrac o).2]) ∧ Below w.heap.size w w'
set_option maxHeartbeats 8000000 in
theorem specPairQ (d n : Nat) (hd : d ≤ 3) (hn : n ≤ 5) (A : Option Addr) (c : Nat) (l : Ts) (A2 : Option Addr) (cc : Nat) (l2 : Ts) (w : World) (hr : KT.C w A l.length l) (hr2 : KT.C w A2 l2.length l2) (hcc : l2.length ≤ cc) (hx : isTs d n l = true) (hy : isTs d n l2 = true) :
    Calls Try.prog 133 #[.agg #[.int .i64 (d : Int), .int .i64 (n : Int), .slice A l.length c], .agg #[.int .i64 (d : Int), .int .i64 (n : Int), .slice A2 l2.length cc]] w (RetFQ w (pairS l l2)) := by
  have HR := Aside0.mk hr
  have HR2 := Aside0.mk hr2
  have hll := (bnd_iff.1 (isTs_bnd hd hn hx)).1
  have hll2 := (bnd_iff.1 (isTs_bnd hd hn hy)).1
  have HSM := Aside0.mk (isTs_small hx)
  have HG := Aside0.mk (fun u => fr_small (co_fr hy u))
  have HPS := Aside0.mk (show pairS l l2 = accS (pairU l l2) from rfl)
  have HS := Aside0.mk (Sep.refl w)
  clear hr hr2 hx hy
  go_enter Try.func133, Try.ntmps133
  go_wp2_with (first | ((with_reducible refine gate_dst (N := 2) rfl ?_); refine bxL 32 #[.int .i64 (d : Int), .int .i64 (n : Int), .slice A l.length c] HS ?_; clear HS; intro g_p w1 hg_p HS) | ((with_reducible refine gate_dst (N := 3) rfl ?_); refine bxL 32 #[.int .i64 (d : Int), .int .i64 (n : Int), .slice A2 l2.length cc] HS ?_; clear HS; intro g_a w1 hg_a HS) | ((with_reducible refine gate_dst (N := 4) rfl ?_); refine bxL 24 #[(.int .i64 0), (.int .i64 0)] HS ?_; clear HS; intro g_r w1 hg_r HS) | ((with_reducible refine gate_dst (N := 6) rfl ?_); refine bxL 24 #[(.int .i64 0), (.int .i64 0)] HS ?_; clear HS; intro g_sm w1 hg_sm HS) | ((with_reducible refine gate_store (t := 24) (p := 6) rfl ?_); refine stL HS 0 0 #[(.int .i64 0), (.int .i64 1)] rfl rfl rfl rfl rfl ?_; clear HS; intro w1 HS))
  go_loopw [7] (fun v w' => ∃ (i : Nat) (e : Fr), i ≤ l.length ∧ v = .int .i64 (i : Int) ∧ Aside0 (accS (pairU (l.take i) l2) = some e) ∧ Aside0 (Mod w w' No [bx g_sm 24 #[.int .i64 e.1, .int .i64 e.2], bx g_r 24 #[(.int .i64 0), (.int .i64 0)], bx g_a 32 #[.int .i64 (d : Int), .int .i64 (n : Int), .slice A2 l2.length cc], bx g_p 32 #[.int .i64 (d : Int), .int .i64 (n : Int), .slice A l.length c]])) (fun v _ => l.length - (intOf v).toNat)
  case atStart => exact ⟨0, (0, 1), by omega, rfl, ⟨rfl⟩, HS⟩
  case round =>
    clear HS
    obtain ⟨i, e, hi, rfl, HE, HS⟩ := hrel
    have HFE := Aside0.mk (fr_small (acc_fr HE.out))
    by_cases hlt : i < l.length
    · have hgt := List.getElem?_eq_getElem hlt
      have hgt2 := getD_lt l zT i hlt
      have hsm := HSM.out _ (List.getElem_mem hlt)
      obtain ⟨ad_A, ea_, h0_, h1_, h2_⟩ := tm_at HR.out i (hlt)
      cases ea_
      obtain ⟨t, ht_⟩ : ∃ t_, t_ = l.getD i zT := ⟨_, rfl⟩
      rw [← ht_] at h0_ h1_ h2_
      have Et := Aside0.mk ht_; have H0t := Aside0.mk h0_; have H1t := Aside0.mk h1_; have H2t := Aside0.mk h2_
      clear ht_ h0_ h1_ h2_
      rw [← hgt2, ← Et.out] at hgt hsm
      have HNX := Aside0.mk (pairU_next (y := l2) hgt)
      clear hgt hgt2
      have hbs := HG.out t.1
      obtain ⟨b, hb⟩ : ∃ b, b = co l2 t.1 := ⟨_, rfl⟩
      have HV := Aside0.mk (fun W k1 => hb ▸ specValue d n A2 cc l2 t.1 W k1 hcc hll2)
      rw [← hb] at HNX hbs
      clear hb
      by_cases hz : b.1 = 0
      · have hzb : (b.1 == 0) = true := by rw [hz]; rfl
        have HN := Aside0.mk (show accS (pairU (l.take (i + 1)) l2) = some e by rw [HNX.out, if_pos hz, List.append_nil]; exact HE.out)
        clear hz
        have f1_ := HS.out.c 3 2 (v := .slice (some ad_A) l.length c) rfl rfl
        go_wp2
        clear f1_
        replace HS := sD HS
        apply region_told ((fun (A0_ : Nat → Act) (a' : Act) (w' : World) => ∃ (g_vb : Nat), a' = A0_ g_vb ∧ Aside0 (Mod w w' No [bx g_vb 24 #[.int .i64 b.1, .int .i64 b.2], bx g_sm 24 #[.int .i64 e.1, .int .i64 e.2], bx g_r 24 #[(.int .i64 0), (.int .i64 0)], bx g_a 32 #[.int .i64 (d : Int), .int .i64 (n : Int), .slice A2 l2.length cc], bx g_p 32 #[.int .i64 (d : Int), .int .i64 (n : Int), .slice (some ad_A) l.length c]])) _)
        case h1 =>
          refine ps (.p 1 (.p 3 (.t 0 (.t 2 (.p 4 (.p 5 (.t 6 (.two 7 8 (.e 8 (.d 9 .done)) (.e 7 (.d 9 .done)))))))))) (fun w' => w'.cell? ⟨g_a, 0, none⟩ = some (.int .i64 (d : Int)) ∧ w'.cell? ⟨g_a, 1, none⟩ = some (.int .i64 (n : Int)) ∧ w'.cell? ⟨g_a, 2, none⟩ = some (.slice A2 l2.length cc) ∧ w'.cell? ⟨g_p, 2, none⟩ = some (.slice (some ad_A) l.length c) ∧ w'.cell? (ad_A.add (i * 3)) = some (.string t.1)) [9] ⟨HS.out.c 2 0 (v := .int .i64 (d : Int)) rfl rfl, HS.out.c 2 1 (v := .int .i64 (n : Int)) rfl rfl, HS.out.c 2 2 (v := .slice A2 l2.length cc) rfl rfl, HS.out.c 3 2 (v := .slice (some ad_A) l.length c) rfl rfl, HS.out.old H0t.out⟩ (fun hHeld => ?_)
          repeat (first | ((with_reducible refine gate_p ?_); refine rp rfl rfl ?_) | ((with_reducible refine gate_t ?_); refine rt rfl rfl hHeld ?_))
          refine run_two ?_ ?_
          · skip
            refine run_e rfl (fun K hK => ?_)
            refine gc Try.func124 (HV.out _ (HS.out.oldC HR2.out)) rfl rfl ?_
            rintro e_ w1 ⟨rfl, hb⟩
            refine ⟨_, rfl, ?_⟩
            replace HS := sB HS hb
            refine ge hK ⟨HS.out.c 2 0 (v := .int .i64 (d : Int)) rfl rfl, HS.out.c 2 1 (v := .int .i64 (n : Int)) rfl rfl, HS.out.c 2 2 (v := .slice A2 l2.length cc) rfl rfl, HS.out.c 3 2 (v := .slice (some ad_A) l.length c) rfl rfl, HS.out.old H0t.out⟩ (fun hHeld => ?_)
            refine run_e rfl (fun K hK => ?_)
            refine bx1 24 #[(.int .i64 0), (.int .i64 0)] HS ?_
            intro g_vb w1 hg_vb HS
            refine ge hK ⟨HS.out.c 3 0 (v := .int .i64 (d : Int)) rfl rfl, HS.out.c 3 1 (v := .int .i64 (n : Int)) rfl rfl, HS.out.c 3 2 (v := .slice A2 l2.length cc) rfl rfl, HS.out.c 4 2 (v := .slice (some ad_A) l.length c) rfl rfl, HS.out.old H0t.out⟩ (fun hHeld => ?_)
            refine run_d rfl (fun K hK => ?_)
            refine st1 HS 0 0 #[.int .i64 b.1, .int .i64 b.2] rfl rfl rfl rfl rfl ?_
            intro w1 HS
            refine goD hK rfl ?_
            refine run_done ?_
            exact ⟨g_vb, rfl, HS⟩
          · skip
            refine run_e rfl (fun K hK => ?_)
            refine bx1 24 #[(.int .i64 0), (.int .i64 0)] HS ?_
            intro g_vb w1 hg_vb HS
            refine ge hK ⟨HS.out.c 3 0 (v := .int .i64 (d : Int)) rfl rfl, HS.out.c 3 1 (v := .int .i64 (n : Int)) rfl rfl, HS.out.c 3 2 (v := .slice A2 l2.length cc) rfl rfl, HS.out.c 4 2 (v := .slice (some ad_A) l.length c) rfl rfl, HS.out.old H0t.out⟩ (fun hHeld => ?_)
            refine run_e rfl (fun K hK => ?_)
            refine gc Try.func124 (HV.out _ (HS.out.oldC HR2.out)) rfl rfl ?_
            rintro e_ w1 ⟨rfl, hb⟩
            refine ⟨_, rfl, ?_⟩
            replace HS := sB HS hb
            refine ge hK ⟨HS.out.c 3 0 (v := .int .i64 (d : Int)) rfl rfl, HS.out.c 3 1 (v := .int .i64 (n : Int)) rfl rfl, HS.out.c 3 2 (v := .slice A2 l2.length cc) rfl rfl, HS.out.c 4 2 (v := .slice (some ad_A) l.length c) rfl rfl, HS.out.old H0t.out⟩ (fun hHeld => ?_)
            refine run_d rfl (fun K hK => ?_)
            refine st1 HS 0 0 #[.int .i64 b.1, .int .i64 b.2] rfl rfl rfl rfl rfl ?_
            intro w1 HS
            refine goD hK rfl ?_
            refine run_done ?_
            have n_ := HS.out.sel [0, 1, 2, 3, 4] (by decide)
            simp only [List.filterMap_cons, List.filterMap_nil, List.getElem?_cons_zero, List.getElem?_cons_succ] at n_
            exact ⟨g_vb, rfl, ⟨n_⟩⟩
        clear HS
        rintro a_ w1 ⟨g_vb, rfl, HS⟩
        have f1_ := HS.out.c 0 0 (v := .int .i64 b.1) rfl rfl
        have f2_ := HS.out.c 0 1 (v := .int .i64 b.2) rfl rfl
        go_wp2_with (first | (go_at_call 92; refine (specZero _ _ _).mono ?_; rintro e_ w1 ⟨rfl, hb⟩; replace HS := sB HS hb; clear hb f1_ f2_))
        replace HS : Aside0 (Mod _ _ _ [_, _, _, _]) := sX HS [1, 2, 3, 4]
        go_roundw
        case rel => exact ⟨i + 1, e, by omega, by go_num, HN, HS⟩
        case measure => simp [intOf]; omega
      · have hzb : (b.1 == 0) = false := by simpa using hz
        obtain ⟨m, hm⟩ : ∃ m, m = mul t.2 b := ⟨_, rfl⟩
        have HP := Aside0.mk (fun W => hm ▸ specTimes t.2.1 t.2.2 b.1 b.2 W hsm hbs)
        have HMF := Aside0.mk (fun v (hv : m = some v) => fr_small (mul_fr (hm.symm.trans hv)))
        have HN := Aside0.mk (show accS (pairU (l.take (i + 1)) l2) = m.bind (add e) by rw [HNX.out, if_neg hz, acc_snoc, HE.out, hm]; rfl)
        have HBAD := Aside0.mk (fun (h : accS (pairU (l.take (i + 1)) l2) = none) => (by rw [HPS.out]; obtain ⟨V, hV⟩ := pairU_split l l2 (i + 1); rw [hV]; exact acc_bad h : pairS l l2 = none))
        clear hz hm
        cases m with
        | none =>
          have f1_ := HS.out.c 3 2 (v := .slice (some ad_A) l.length c) rfl rfl
          go_wp2
          clear f1_
          replace HS := sD HS
          apply region_told ((fun (A0_ : Nat → Act) (a' : Act) (w' : World) => ∃ (g_vb : Nat), a' = A0_ g_vb ∧ Aside0 (Mod w w' No [bx g_vb 24 #[.int .i64 b.1, .int .i64 b.2], bx g_sm 24 #[.int .i64 e.1, .int .i64 e.2], bx g_r 24 #[(.int .i64 0), (.int .i64 0)], bx g_a 32 #[.int .i64 (d : Int), .int .i64 (n : Int), .slice A2 l2.length cc], bx g_p 32 #[.int .i64 (d : Int), .int .i64 (n : Int), .slice (some ad_A) l.length c]])) _)
          case h1 =>
            refine ps (.p 1 (.p 3 (.t 0 (.t 2 (.p 4 (.p 5 (.t 6 (.two 7 8 (.e 8 (.d 9 .done)) (.e 7 (.d 9 .done)))))))))) (fun w' => w'.cell? ⟨g_a, 0, none⟩ = some (.int .i64 (d : Int)) ∧ w'.cell? ⟨g_a, 1, none⟩ = some (.int .i64 (n : Int)) ∧ w'.cell? ⟨g_a, 2, none⟩ = some (.slice A2 l2.length cc) ∧ w'.cell? ⟨g_p, 2, none⟩ = some (.slice (some ad_A) l.length c) ∧ w'.cell? (ad_A.add (i * 3)) = some (.string t.1)) [9] ⟨HS.out.c 2 0 (v := .int .i64 (d : Int)) rfl rfl, HS.out.c 2 1 (v := .int .i64 (n : Int)) rfl rfl, HS.out.c 2 2 (v := .slice A2 l2.length cc) rfl rfl, HS.out.c 3 2 (v := .slice (some ad_A) l.length c) rfl rfl, HS.out.old H0t.out⟩ (fun hHeld => ?_)
            repeat (first | ((with_reducible refine gate_p ?_); refine rp rfl rfl ?_) | ((with_reducible refine gate_t ?_); refine rt rfl rfl hHeld ?_))
            refine run_two ?_ ?_
            · skip
              refine run_e rfl (fun K hK => ?_)
              refine gc Try.func124 (HV.out _ (HS.out.oldC HR2.out)) rfl rfl ?_
              rintro e_ w1 ⟨rfl, hb⟩
              refine ⟨_, rfl, ?_⟩
              replace HS := sB HS hb
              refine ge hK ⟨HS.out.c 2 0 (v := .int .i64 (d : Int)) rfl rfl, HS.out.c 2 1 (v := .int .i64 (n : Int)) rfl rfl, HS.out.c 2 2 (v := .slice A2 l2.length cc) rfl rfl, HS.out.c 3 2 (v := .slice (some ad_A) l.length c) rfl rfl, HS.out.old H0t.out⟩ (fun hHeld => ?_)
              refine run_e rfl (fun K hK => ?_)
              refine bx1 24 #[(.int .i64 0), (.int .i64 0)] HS ?_
              intro g_vb w1 hg_vb HS
              refine ge hK ⟨HS.out.c 3 0 (v := .int .i64 (d : Int)) rfl rfl, HS.out.c 3 1 (v := .int .i64 (n : Int)) rfl rfl, HS.out.c 3 2 (v := .slice A2 l2.length cc) rfl rfl, HS.out.c 4 2 (v := .slice (some ad_A) l.length c) rfl rfl, HS.out.old H0t.out⟩ (fun hHeld => ?_)
              refine run_d rfl (fun K hK => ?_)
              refine st1 HS 0 0 #[.int .i64 b.1, .int .i64 b.2] rfl rfl rfl rfl rfl ?_
              intro w1 HS
              refine goD hK rfl ?_
              refine run_done ?_
              exact ⟨g_vb, rfl, HS⟩
            · skip
              refine run_e rfl (fun K hK => ?_)
              refine bx1 24 #[(.int .i64 0), (.int .i64 0)] HS ?_
              intro g_vb w1 hg_vb HS
              refine ge hK ⟨HS.out.c 3 0 (v := .int .i64 (d : Int)) rfl rfl, HS.out.c 3 1 (v := .int .i64 (n : Int)) rfl rfl, HS.out.c 3 2 (v := .slice A2 l2.length cc) rfl rfl, HS.out.c 4 2 (v := .slice (some ad_A) l.length c) rfl rfl, HS.out.old H0t.out⟩ (fun hHeld => ?_)
              refine run_e rfl (fun K hK => ?_)
              refine gc Try.func124 (HV.out _ (HS.out.oldC HR2.out)) rfl rfl ?_
              rintro e_ w1 ⟨rfl, hb⟩
              refine ⟨_, rfl, ?_⟩
              replace HS := sB HS hb
              refine ge hK ⟨HS.out.c 3 0 (v := .int .i64 (d : Int)) rfl rfl, HS.out.c 3 1 (v := .int .i64 (n : Int)) rfl rfl, HS.out.c 3 2 (v := .slice A2 l2.length cc) rfl rfl, HS.out.c 4 2 (v := .slice (some ad_A) l.length c) rfl rfl, HS.out.old H0t.out⟩ (fun hHeld => ?_)
              refine run_d rfl (fun K hK => ?_)
              refine st1 HS 0 0 #[.int .i64 b.1, .int .i64 b.2] rfl rfl rfl rfl rfl ?_
              intro w1 HS
              refine goD hK rfl ?_
              refine run_done ?_
              have n_ := HS.out.sel [0, 1, 2, 3, 4] (by decide)
              simp only [List.filterMap_cons, List.filterMap_nil, List.getElem?_cons_zero, List.getElem?_cons_succ] at n_
              exact ⟨g_vb, rfl, ⟨n_⟩⟩
          clear HS
          rintro a_ w1 ⟨g_vb, rfl, HS⟩
          have f1_ := HS.out.c 0 0 (v := .int .i64 b.1) rfl rfl
          have f2_ := HS.out.c 0 1 (v := .int .i64 b.2) rfl rfl
          go_wp2_with (first | (go_at_call 92; refine (specZero _ _ _).mono ?_; rintro e_ w1 ⟨rfl, hb⟩; replace HS := sB HS hb; clear hb f1_ f2_))
          replace HS := sD HS
          apply region_told ((fun (A0_ : Nat → Act) (a' : Act) (w' : World) => ∃ (g_pr : Nat), a' = A0_ g_pr ∧ Aside0 (Mod w w' No [bx g_pr 24 #[.int .i64 0, .int .i64 0], bx g_vb 24 #[.int .i64 b.1, .int .i64 b.2], bx g_sm 24 #[.int .i64 e.1, .int .i64 e.2], bx g_r 24 #[(.int .i64 0), (.int .i64 0)], bx g_a 32 #[.int .i64 (d : Int), .int .i64 (n : Int), .slice A2 l2.length cc], bx g_p 32 #[.int .i64 (d : Int), .int .i64 (n : Int), .slice (some ad_A) l.length c]])) _)
          case h1 =>
            refine ps (.p 0 (.p 2 (.t 1 (.p 3 (.p 4 (.t 5 (.t 6 (.two 7 11 (.p 8 (.p 9 (.p 10 (.e 11 (.d 12 (.p 13 .done)))))) (.e 7 (.p 8 (.p 9 (.p 10 (.d 12 (.p 13 .done)))))))))))))) (fun w' => w'.cell? ⟨g_p, 2, none⟩ = some (.slice (some ad_A) l.length c) ∧ w'.cell? ⟨(ad_A.add (i * 3)).block, (ad_A.add (i * 3)).off + 1, none⟩ = some (.int .i64 t.2.1) ∧ w'.cell? ⟨(ad_A.add (i * 3)).block, (ad_A.add (i * 3)).off + 1 + 1, none⟩ = some (.int .i64 t.2.2) ∧ w'.cell? ⟨g_vb, 0, none⟩ = some (.int .i64 b.1) ∧ w'.cell? ⟨g_vb, 1, none⟩ = some (.int .i64 b.2)) [12] ⟨HS.out.c 4 2 (v := .slice (some ad_A) l.length c) rfl rfl, HS.out.old H1t.out, c2 (HS.out.old H2t.out), HS.out.c 0 0 (v := .int .i64 b.1) rfl rfl, HS.out.c 0 1 (v := .int .i64 b.2) rfl rfl⟩ (fun hHeld => ?_)
            repeat (first | ((with_reducible refine gate_p ?_); refine rp rfl rfl ?_) | ((with_reducible refine gate_t ?_); refine rt rfl rfl hHeld ?_))
            refine run_two ?_ ?_
            · skip
              refine run_e rfl (fun K hK => ?_)
              refine gc Try.func192 (HP.out _) rfl rfl ?_
              rintro e_ w1 ⟨rfl, hb⟩
              refine ⟨_, rfl, ?_⟩
              replace HS := sB HS hb
              refine ge hK ⟨HS.out.c 4 2 (v := .slice (some ad_A) l.length c) rfl rfl, HS.out.old H1t.out, c2 (HS.out.old H2t.out), HS.out.c 0 0 (v := .int .i64 b.1) rfl rfl, HS.out.c 0 1 (v := .int .i64 b.2) rfl rfl⟩ (fun hHeld => ?_)
              repeat (first | ((with_reducible refine gate_p ?_); refine rp rfl rfl ?_) | ((with_reducible refine gate_t ?_); refine rt rfl rfl hHeld ?_))
              refine run_e rfl (fun K hK => ?_)
              refine bx1 24 #[(.int .i64 0), (.int .i64 0)] HS ?_
              intro g_pr w1 hg_pr HS
              refine ge hK ⟨HS.out.c 5 2 (v := .slice (some ad_A) l.length c) rfl rfl, HS.out.old H1t.out, c2 (HS.out.old H2t.out), HS.out.c 1 0 (v := .int .i64 b.1) rfl rfl, HS.out.c 1 1 (v := .int .i64 b.2) rfl rfl⟩ (fun hHeld => ?_)
              refine run_d rfl (fun K hK => ?_)
              refine st1 HS 0 0 #[.int .i64 0, .int .i64 0] rfl rfl rfl rfl rfl ?_
              intro w1 HS
              refine goD hK rfl ?_
              repeat (first | ((with_reducible refine gate_p ?_); refine rp rfl rfl ?_) | ((with_reducible refine gate_t ?_); refine rt rfl rfl hHeld ?_))
              refine run_done ?_
              exact ⟨g_pr, rfl, HS⟩
            · skip
              refine run_e rfl (fun K hK => ?_)
              refine bx1 24 #[(.int .i64 0), (.int .i64 0)] HS ?_
              intro g_pr w1 hg_pr HS
              refine ge hK ⟨HS.out.c 5 2 (v := .slice (some ad_A) l.length c) rfl rfl, HS.out.old H1t.out, c2 (HS.out.old H2t.out), HS.out.c 1 0 (v := .int .i64 b.1) rfl rfl, HS.out.c 1 1 (v := .int .i64 b.2) rfl rfl⟩ (fun hHeld => ?_)
              refine run_e rfl (fun K hK => ?_)
              refine gc Try.func192 (HP.out _) rfl rfl ?_
              rintro e_ w1 ⟨rfl, hb⟩
              refine ⟨_, rfl, ?_⟩
              replace HS := sB HS hb
              refine ge hK ⟨HS.out.c 5 2 (v := .slice (some ad_A) l.length c) rfl rfl, HS.out.old H1t.out, c2 (HS.out.old H2t.out), HS.out.c 1 0 (v := .int .i64 b.1) rfl rfl, HS.out.c 1 1 (v := .int .i64 b.2) rfl rfl⟩ (fun hHeld => ?_)
              repeat (first | ((with_reducible refine gate_p ?_); refine rp rfl rfl ?_) | ((with_reducible refine gate_t ?_); refine rt rfl rfl hHeld ?_))
              refine run_d rfl (fun K hK => ?_)
              refine st1 HS 0 0 #[.int .i64 0, .int .i64 0] rfl rfl rfl rfl rfl ?_
              intro w1 HS
              refine goD hK rfl ?_
              repeat (first | ((with_reducible refine gate_p ?_); refine rp rfl rfl ?_) | ((with_reducible refine gate_t ?_); refine rt rfl rfl hHeld ?_))
              refine run_done ?_
              have n_ := HS.out.sel [0, 1, 2, 3, 4, 5] (by decide)
              simp only [List.filterMap_cons, List.filterMap_nil, List.getElem?_cons_zero, List.getElem?_cons_succ] at n_
              exact ⟨g_pr, rfl, ⟨n_⟩⟩
          clear HS
          rintro a_ w1 ⟨g_pr, rfl, HS⟩
          go_wp2_with (first | ((with_reducible refine gate_store (t := 24) (p := 4) rfl ?_); refine stL HS 3 0 #[(.int .i64 0), (.int .i64 0)] rfl rfl rfl rfl rfl ?_; clear HS; intro w1 HS))
          refine bodyPost_ret (results_cell_tmp_row rfl _ _ g_r 24 #[(.int .i64 0), (.int .i64 0)] (0, 0) _ rfl (HS.out.at (i := 3) rfl) Try.underlying24 rfl (by kernel_rfl)) rfl ?_
          rw [HBAD.out HN.out]
          exact ⟨rfl, HS.out.below⟩
        | some v =>
          obtain ⟨q, hq⟩ : ∃ q, q = add e v := ⟨_, rfl⟩
          have HQ := Aside0.mk (fun W => hq ▸ specPlus e.1 e.2 v.1 v.2 W HFE.out (HMF.out v rfl))
          have HN2 := Aside0.mk (HN.out.trans (show (some v).bind (add e) = q from hq.symm))
          clear hq HN
          cases q with
          | none =>
            have f1_ := HS.out.c 3 2 (v := .slice (some ad_A) l.length c) rfl rfl
            go_wp2
            clear f1_
            replace HS := sD HS
            apply region_told ((fun (A0_ : Nat → Act) (a' : Act) (w' : World) => ∃ (g_vb : Nat), a' = A0_ g_vb ∧ Aside0 (Mod w w' No [bx g_vb 24 #[.int .i64 b.1, .int .i64 b.2], bx g_sm 24 #[.int .i64 e.1, .int .i64 e.2], bx g_r 24 #[(.int .i64 0), (.int .i64 0)], bx g_a 32 #[.int .i64 (d : Int), .int .i64 (n : Int), .slice A2 l2.length cc], bx g_p 32 #[.int .i64 (d : Int), .int .i64 (n : Int), .slice (some ad_A) l.length c]])) _)
            case h1 =>
              refine ps (.p 1 (.p 3 (.t 0 (.t 2 (.p 4 (.p 5 (.t 6 (.two 7 8 (.e 8 (.d 9 .done)) (.e 7 (.d 9 .done)))))))))) (fun w' => w'.cell? ⟨g_a, 0, none⟩ = some (.int .i64 (d : Int)) ∧ w'.cell? ⟨g_a, 1, none⟩ = some (.int .i64 (n : Int)) ∧ w'.cell? ⟨g_a, 2, none⟩ = some (.slice A2 l2.length cc) ∧ w'.cell? ⟨g_p, 2, none⟩ = some (.slice (some ad_A) l.length c) ∧ w'.cell? (ad_A.add (i * 3)) = some (.string t.1)) [9] ⟨HS.out.c 2 0 (v := .int .i64 (d : Int)) rfl rfl, HS.out.c 2 1 (v := .int .i64 (n : Int)) rfl rfl, HS.out.c 2 2 (v := .slice A2 l2.length cc) rfl rfl, HS.out.c 3 2 (v := .slice (some ad_A) l.length c) rfl rfl, HS.out.old H0t.out⟩ (fun hHeld => ?_)
              repeat (first | ((with_reducible refine gate_p ?_); refine rp rfl rfl ?_) | ((with_reducible refine gate_t ?_); refine rt rfl rfl hHeld ?_))
              refine run_two ?_ ?_
              · skip
                refine run_e rfl (fun K hK => ?_)
                refine gc Try.func124 (HV.out _ (HS.out.oldC HR2.out)) rfl rfl ?_
                rintro e_ w1 ⟨rfl, hb⟩
                refine ⟨_, rfl, ?_⟩
                replace HS := sB HS hb
                refine ge hK ⟨HS.out.c 2 0 (v := .int .i64 (d : Int)) rfl rfl, HS.out.c 2 1 (v := .int .i64 (n : Int)) rfl rfl, HS.out.c 2 2 (v := .slice A2 l2.length cc) rfl rfl, HS.out.c 3 2 (v := .slice (some ad_A) l.length c) rfl rfl, HS.out.old H0t.out⟩ (fun hHeld => ?_)
                refine run_e rfl (fun K hK => ?_)
                refine bx1 24 #[(.int .i64 0), (.int .i64 0)] HS ?_
                intro g_vb w1 hg_vb HS
                refine ge hK ⟨HS.out.c 3 0 (v := .int .i64 (d : Int)) rfl rfl, HS.out.c 3 1 (v := .int .i64 (n : Int)) rfl rfl, HS.out.c 3 2 (v := .slice A2 l2.length cc) rfl rfl, HS.out.c 4 2 (v := .slice (some ad_A) l.length c) rfl rfl, HS.out.old H0t.out⟩ (fun hHeld => ?_)
                refine run_d rfl (fun K hK => ?_)
                refine st1 HS 0 0 #[.int .i64 b.1, .int .i64 b.2] rfl rfl rfl rfl rfl ?_
                intro w1 HS
                refine goD hK rfl ?_
                refine run_done ?_
                exact ⟨g_vb, rfl, HS⟩
              · skip
                refine run_e rfl (fun K hK => ?_)
                refine bx1 24 #[(.int .i64 0), (.int .i64 0)] HS ?_
                intro g_vb w1 hg_vb HS
                refine ge hK ⟨HS.out.c 3 0 (v := .int .i64 (d : Int)) rfl rfl, HS.out.c 3 1 (v := .int .i64 (n : Int)) rfl rfl, HS.out.c 3 2 (v := .slice A2 l2.length cc) rfl rfl, HS.out.c 4 2 (v := .slice (some ad_A) l.length c) rfl rfl, HS.out.old H0t.out⟩ (fun hHeld => ?_)
                refine run_e rfl (fun K hK => ?_)
                refine gc Try.func124 (HV.out _ (HS.out.oldC HR2.out)) rfl rfl ?_
                rintro e_ w1 ⟨rfl, hb⟩
                refine ⟨_, rfl, ?_⟩
                replace HS := sB HS hb
                refine ge hK ⟨HS.out.c 3 0 (v := .int .i64 (d : Int)) rfl rfl, HS.out.c 3 1 (v := .int .i64 (n : Int)) rfl rfl, HS.out.c 3 2 (v := .slice A2 l2.length cc) rfl rfl, HS.out.c 4 2 (v := .slice (some ad_A) l.length c) rfl rfl, HS.out.old H0t.out⟩ (fun hHeld => ?_)
                refine run_d rfl (fun K hK => ?_)
                refine st1 HS 0 0 #[.int .i64 b.1, .int .i64 b.2] rfl rfl rfl rfl rfl ?_
                intro w1 HS
                refine goD hK rfl ?_
                refine run_done ?_
                have n_ := HS.out.sel [0, 1, 2, 3, 4] (by decide)
                simp only [List.filterMap_cons, List.filterMap_nil, List.getElem?_cons_zero, List.getElem?_cons_succ] at n_
                exact ⟨g_vb, rfl, ⟨n_⟩⟩
            clear HS
            rintro a_ w1 ⟨g_vb, rfl, HS⟩
            have f1_ := HS.out.c 0 0 (v := .int .i64 b.1) rfl rfl
            have f2_ := HS.out.c 0 1 (v := .int .i64 b.2) rfl rfl
            go_wp2_with (first | (go_at_call 92; refine (specZero _ _ _).mono ?_; rintro e_ w1 ⟨rfl, hb⟩; replace HS := sB HS hb; clear hb f1_ f2_))
            replace HS := sD HS
            apply region_told ((fun (A0_ : Nat → Act) (a' : Act) (w' : World) => ∃ (g_pr : Nat), a' = A0_ g_pr ∧ Aside0 (Mod w w' No [bx g_pr 24 #[.int .i64 v.1, .int .i64 v.2], bx g_vb 24 #[.int .i64 b.1, .int .i64 b.2], bx g_sm 24 #[.int .i64 e.1, .int .i64 e.2], bx g_r 24 #[(.int .i64 0), (.int .i64 0)], bx g_a 32 #[.int .i64 (d : Int), .int .i64 (n : Int), .slice A2 l2.length cc], bx g_p 32 #[.int .i64 (d : Int), .int .i64 (n : Int), .slice (some ad_A) l.length c]])) _)
            case h1 =>
              refine ps (.p 0 (.p 2 (.t 1 (.p 3 (.p 4 (.t 5 (.t 6 (.two 7 11 (.p 8 (.p 9 (.p 10 (.e 11 (.d 12 (.p 13 .done)))))) (.e 7 (.p 8 (.p 9 (.p 10 (.d 12 (.p 13 .done)))))))))))))) (fun w' => w'.cell? ⟨g_p, 2, none⟩ = some (.slice (some ad_A) l.length c) ∧ w'.cell? ⟨(ad_A.add (i * 3)).block, (ad_A.add (i * 3)).off + 1, none⟩ = some (.int .i64 t.2.1) ∧ w'.cell? ⟨(ad_A.add (i * 3)).block, (ad_A.add (i * 3)).off + 1 + 1, none⟩ = some (.int .i64 t.2.2) ∧ w'.cell? ⟨g_vb, 0, none⟩ = some (.int .i64 b.1) ∧ w'.cell? ⟨g_vb, 1, none⟩ = some (.int .i64 b.2)) [12] ⟨HS.out.c 4 2 (v := .slice (some ad_A) l.length c) rfl rfl, HS.out.old H1t.out, c2 (HS.out.old H2t.out), HS.out.c 0 0 (v := .int .i64 b.1) rfl rfl, HS.out.c 0 1 (v := .int .i64 b.2) rfl rfl⟩ (fun hHeld => ?_)
              repeat (first | ((with_reducible refine gate_p ?_); refine rp rfl rfl ?_) | ((with_reducible refine gate_t ?_); refine rt rfl rfl hHeld ?_))
              refine run_two ?_ ?_
              · skip
                refine run_e rfl (fun K hK => ?_)
                refine gc Try.func192 (HP.out _) rfl rfl ?_
                rintro e_ w1 ⟨rfl, hb⟩
                refine ⟨_, rfl, ?_⟩
                replace HS := sB HS hb
                refine ge hK ⟨HS.out.c 4 2 (v := .slice (some ad_A) l.length c) rfl rfl, HS.out.old H1t.out, c2 (HS.out.old H2t.out), HS.out.c 0 0 (v := .int .i64 b.1) rfl rfl, HS.out.c 0 1 (v := .int .i64 b.2) rfl rfl⟩ (fun hHeld => ?_)
                repeat (first | ((with_reducible refine gate_p ?_); refine rp rfl rfl ?_) | ((with_reducible refine gate_t ?_); refine rt rfl rfl hHeld ?_))
                refine run_e rfl (fun K hK => ?_)
                refine bx1 24 #[(.int .i64 0), (.int .i64 0)] HS ?_
                intro g_pr w1 hg_pr HS
                refine ge hK ⟨HS.out.c 5 2 (v := .slice (some ad_A) l.length c) rfl rfl, HS.out.old H1t.out, c2 (HS.out.old H2t.out), HS.out.c 1 0 (v := .int .i64 b.1) rfl rfl, HS.out.c 1 1 (v := .int .i64 b.2) rfl rfl⟩ (fun hHeld => ?_)
                refine run_d rfl (fun K hK => ?_)
                refine st1 HS 0 0 #[.int .i64 v.1, .int .i64 v.2] rfl rfl rfl rfl rfl ?_
                intro w1 HS
                refine goD hK rfl ?_
                repeat (first | ((with_reducible refine gate_p ?_); refine rp rfl rfl ?_) | ((with_reducible refine gate_t ?_); refine rt rfl rfl hHeld ?_))
                refine run_done ?_
                exact ⟨g_pr, rfl, HS⟩
              · skip
                refine run_e rfl (fun K hK => ?_)
                refine bx1 24 #[(.int .i64 0), (.int .i64 0)] HS ?_
                intro g_pr w1 hg_pr HS
                refine ge hK ⟨HS.out.c 5 2 (v := .slice (some ad_A) l.length c) rfl rfl, HS.out.old H1t.out, c2 (HS.out.old H2t.out), HS.out.c 1 0 (v := .int .i64 b.1) rfl rfl, HS.out.c 1 1 (v := .int .i64 b.2) rfl rfl⟩ (fun hHeld => ?_)
                refine run_e rfl (fun K hK => ?_)
                refine gc Try.func192 (HP.out _) rfl rfl ?_
                rintro e_ w1 ⟨rfl, hb⟩
                refine ⟨_, rfl, ?_⟩
                replace HS := sB HS hb
                refine ge hK ⟨HS.out.c 5 2 (v := .slice (some ad_A) l.length c) rfl rfl, HS.out.old H1t.out, c2 (HS.out.old H2t.out), HS.out.c 1 0 (v := .int .i64 b.1) rfl rfl, HS.out.c 1 1 (v := .int .i64 b.2) rfl rfl⟩ (fun hHeld => ?_)
                repeat (first | ((with_reducible refine gate_p ?_); refine rp rfl rfl ?_) | ((with_reducible refine gate_t ?_); refine rt rfl rfl hHeld ?_))
                refine run_d rfl (fun K hK => ?_)
                refine st1 HS 0 0 #[.int .i64 v.1, .int .i64 v.2] rfl rfl rfl rfl rfl ?_
                intro w1 HS
                refine goD hK rfl ?_
                repeat (first | ((with_reducible refine gate_p ?_); refine rp rfl rfl ?_) | ((with_reducible refine gate_t ?_); refine rt rfl rfl hHeld ?_))
                refine run_done ?_
                have n_ := HS.out.sel [0, 1, 2, 3, 4, 5] (by decide)
                simp only [List.filterMap_cons, List.filterMap_nil, List.getElem?_cons_zero, List.getElem?_cons_succ] at n_
                exact ⟨g_pr, rfl, ⟨n_⟩⟩
            clear HS
            rintro a_ w1 ⟨g_pr, rfl, HS⟩
            have f1_ := HS.out.c 2 0 (v := .int .i64 e.1) rfl rfl
            have f2_ := HS.out.c 2 1 (v := .int .i64 e.2) rfl rfl
            have f3_ := HS.out.c 0 0 (v := .int .i64 v.1) rfl rfl
            have f4_ := HS.out.c 0 1 (v := .int .i64 v.2) rfl rfl
            go_wp2_with (first | (go_at_call 193; refine (HQ.out _).mono ?_; rintro e_ w1 ⟨rfl, hb⟩; replace HS := sB HS hb; clear hb f1_ f2_ f3_ f4_) | ((with_reducible refine gate_dst (N := 11) rfl ?_); refine bxL 24 #[(.int .i64 0), (.int .i64 0)] HS ?_; clear HS; intro g_nx w1 hg_nx HS) | ((with_reducible refine gate_store (t := 24) (p := 11) rfl ?_); refine stL HS 0 0 #[.int .i64 0, .int .i64 0] rfl rfl rfl rfl rfl ?_; clear HS; intro w1 HS) | ((with_reducible refine gate_store (t := 24) (p := 4) rfl ?_); refine stL HS 4 0 #[(.int .i64 0), (.int .i64 0)] rfl rfl rfl rfl rfl ?_; clear HS; intro w1 HS))
            refine bodyPost_ret (results_cell_tmp_row rfl _ _ g_r 24 #[(.int .i64 0), (.int .i64 0)] (0, 0) _ rfl (HS.out.at (i := 4) rfl) Try.underlying24 rfl (by kernel_rfl)) rfl ?_
            rw [HBAD.out HN2.out]
            exact ⟨rfl, HS.out.below⟩
          | some f =>
            have f1_ := HS.out.c 3 2 (v := .slice (some ad_A) l.length c) rfl rfl
            go_wp2
            clear f1_
            replace HS := sD HS
            apply region_told ((fun (A0_ : Nat → Act) (a' : Act) (w' : World) => ∃ (g_vb : Nat), a' = A0_ g_vb ∧ Aside0 (Mod w w' No [bx g_vb 24 #[.int .i64 b.1, .int .i64 b.2], bx g_sm 24 #[.int .i64 e.1, .int .i64 e.2], bx g_r 24 #[(.int .i64 0), (.int .i64 0)], bx g_a 32 #[.int .i64 (d : Int), .int .i64 (n : Int), .slice A2 l2.length cc], bx g_p 32 #[.int .i64 (d : Int), .int .i64 (n : Int), .slice (some ad_A) l.length c]])) _)
            case h1 =>
              refine ps (.p 1 (.p 3 (.t 0 (.t 2 (.p 4 (.p 5 (.t 6 (.two 7 8 (.e 8 (.d 9 .done)) (.e 7 (.d 9 .done)))))))))) (fun w' => w'.cell? ⟨g_a, 0, none⟩ = some (.int .i64 (d : Int)) ∧ w'.cell? ⟨g_a, 1, none⟩ = some (.int .i64 (n : Int)) ∧ w'.cell? ⟨g_a, 2, none⟩ = some (.slice A2 l2.length cc) ∧ w'.cell? ⟨g_p, 2, none⟩ = some (.slice (some ad_A) l.length c) ∧ w'.cell? (ad_A.add (i * 3)) = some (.string t.1)) [9] ⟨HS.out.c 2 0 (v := .int .i64 (d : Int)) rfl rfl, HS.out.c 2 1 (v := .int .i64 (n : Int)) rfl rfl, HS.out.c 2 2 (v := .slice A2 l2.length cc) rfl rfl, HS.out.c 3 2 (v := .slice (some ad_A) l.length c) rfl rfl, HS.out.old H0t.out⟩ (fun hHeld => ?_)
              repeat (first | ((with_reducible refine gate_p ?_); refine rp rfl rfl ?_) | ((with_reducible refine gate_t ?_); refine rt rfl rfl hHeld ?_))
              refine run_two ?_ ?_
              · skip
                refine run_e rfl (fun K hK => ?_)
                refine gc Try.func124 (HV.out _ (HS.out.oldC HR2.out)) rfl rfl ?_
                rintro e_ w1 ⟨rfl, hb⟩
                refine ⟨_, rfl, ?_⟩
                replace HS := sB HS hb
                refine ge hK ⟨HS.out.c 2 0 (v := .int .i64 (d : Int)) rfl rfl, HS.out.c 2 1 (v := .int .i64 (n : Int)) rfl rfl, HS.out.c 2 2 (v := .slice A2 l2.length cc) rfl rfl, HS.out.c 3 2 (v := .slice (some ad_A) l.length c) rfl rfl, HS.out.old H0t.out⟩ (fun hHeld => ?_)
                refine run_e rfl (fun K hK => ?_)
                refine bx1 24 #[(.int .i64 0), (.int .i64 0)] HS ?_
                intro g_vb w1 hg_vb HS
                refine ge hK ⟨HS.out.c 3 0 (v := .int .i64 (d : Int)) rfl rfl, HS.out.c 3 1 (v := .int .i64 (n : Int)) rfl rfl, HS.out.c 3 2 (v := .slice A2 l2.length cc) rfl rfl, HS.out.c 4 2 (v := .slice (some ad_A) l.length c) rfl rfl, HS.out.old H0t.out⟩ (fun hHeld => ?_)
                refine run_d rfl (fun K hK => ?_)
                refine st1 HS 0 0 #[.int .i64 b.1, .int .i64 b.2] rfl rfl rfl rfl rfl ?_
                intro w1 HS
                refine goD hK rfl ?_
                refine run_done ?_
                exact ⟨g_vb, rfl, HS⟩
              · skip
                refine run_e rfl (fun K hK => ?_)
                refine bx1 24 #[(.int .i64 0), (.int .i64 0)] HS ?_
                intro g_vb w1 hg_vb HS
                refine ge hK ⟨HS.out.c 3 0 (v := .int .i64 (d : Int)) rfl rfl, HS.out.c 3 1 (v := .int .i64 (n : Int)) rfl rfl, HS.out.c 3 2 (v := .slice A2 l2.length cc) rfl rfl, HS.out.c 4 2 (v := .slice (some ad_A) l.length c) rfl rfl, HS.out.old H0t.out⟩ (fun hHeld => ?_)
                refine run_e rfl (fun K hK => ?_)
                refine gc Try.func124 (HV.out _ (HS.out.oldC HR2.out)) rfl rfl ?_
                rintro e_ w1 ⟨rfl, hb⟩
                refine ⟨_, rfl, ?_⟩
                replace HS := sB HS hb
                refine ge hK ⟨HS.out.c 3 0 (v := .int .i64 (d : Int)) rfl rfl, HS.out.c 3 1 (v := .int .i64 (n : Int)) rfl rfl, HS.out.c 3 2 (v := .slice A2 l2.length cc) rfl rfl, HS.out.c 4 2 (v := .slice (some ad_A) l.length c) rfl rfl, HS.out.old H0t.out⟩ (fun hHeld => ?_)
                refine run_d rfl (fun K hK => ?_)
                refine st1 HS 0 0 #[.int .i64 b.1, .int .i64 b.2] rfl rfl rfl rfl rfl ?_
                intro w1 HS
                refine goD hK rfl ?_
                refine run_done ?_
                have n_ := HS.out.sel [0, 1, 2, 3, 4] (by decide)
                simp only [List.filterMap_cons, List.filterMap_nil, List.getElem?_cons_zero, List.getElem?_cons_succ] at n_
                exact ⟨g_vb, rfl, ⟨n_⟩⟩
            clear HS
            rintro a_ w1 ⟨g_vb, rfl, HS⟩
            have f1_ := HS.out.c 0 0 (v := .int .i64 b.1) rfl rfl
            have f2_ := HS.out.c 0 1 (v := .int .i64 b.2) rfl rfl
            go_wp2_with (first | (go_at_call 92; refine (specZero _ _ _).mono ?_; rintro e_ w1 ⟨rfl, hb⟩; replace HS := sB HS hb; clear hb f1_ f2_))
            replace HS := sD HS
            apply region_told ((fun (A0_ : Nat → Act) (a' : Act) (w' : World) => ∃ (g_pr : Nat), a' = A0_ g_pr ∧ Aside0 (Mod w w' No [bx g_pr 24 #[.int .i64 v.1, .int .i64 v.2], bx g_vb 24 #[.int .i64 b.1, .int .i64 b.2], bx g_sm 24 #[.int .i64 e.1, .int .i64 e.2], bx g_r 24 #[(.int .i64 0), (.int .i64 0)], bx g_a 32 #[.int .i64 (d : Int), .int .i64 (n : Int), .slice A2 l2.length cc], bx g_p 32 #[.int .i64 (d : Int), .int .i64 (n : Int), .slice (some ad_A) l.length c]])) _)
            case h1 =>
              refine ps (.p 0 (.p 2 (.t 1 (.p 3 (.p 4 (.t 5 (.t 6 (.two 7 11 (.p 8 (.p 9 (.p 10 (.e 11 (.d 12 (.p 13 .done)))))) (.e 7 (.p 8 (.p 9 (.p 10 (.d 12 (.p 13 .done)))))))))))))) (fun w' => w'.cell? ⟨g_p, 2, none⟩ = some (.slice (some ad_A) l.length c) ∧ w'.cell? ⟨(ad_A.add (i * 3)).block, (ad_A.add (i * 3)).off + 1, none⟩ = some (.int .i64 t.2.1) ∧ w'.cell? ⟨(ad_A.add (i * 3)).block, (ad_A.add (i * 3)).off + 1 + 1, none⟩ = some (.int .i64 t.2.2) ∧ w'.cell? ⟨g_vb, 0, none⟩ = some (.int .i64 b.1) ∧ w'.cell? ⟨g_vb, 1, none⟩ = some (.int .i64 b.2)) [12] ⟨HS.out.c 4 2 (v := .slice (some ad_A) l.length c) rfl rfl, HS.out.old H1t.out, c2 (HS.out.old H2t.out), HS.out.c 0 0 (v := .int .i64 b.1) rfl rfl, HS.out.c 0 1 (v := .int .i64 b.2) rfl rfl⟩ (fun hHeld => ?_)
              repeat (first | ((with_reducible refine gate_p ?_); refine rp rfl rfl ?_) | ((with_reducible refine gate_t ?_); refine rt rfl rfl hHeld ?_))
              refine run_two ?_ ?_
              · skip
                refine run_e rfl (fun K hK => ?_)
                refine gc Try.func192 (HP.out _) rfl rfl ?_
                rintro e_ w1 ⟨rfl, hb⟩
                refine ⟨_, rfl, ?_⟩
                replace HS := sB HS hb
                refine ge hK ⟨HS.out.c 4 2 (v := .slice (some ad_A) l.length c) rfl rfl, HS.out.old H1t.out, c2 (HS.out.old H2t.out), HS.out.c 0 0 (v := .int .i64 b.1) rfl rfl, HS.out.c 0 1 (v := .int .i64 b.2) rfl rfl⟩ (fun hHeld => ?_)
                repeat (first | ((with_reducible refine gate_p ?_); refine rp rfl rfl ?_) | ((with_reducible refine gate_t ?_); refine rt rfl rfl hHeld ?_))
                refine run_e rfl (fun K hK => ?_)
                refine bx1 24 #[(.int .i64 0), (.int .i64 0)] HS ?_
                intro g_pr w1 hg_pr HS
                refine ge hK ⟨HS.out.c 5 2 (v := .slice (some ad_A) l.length c) rfl rfl, HS.out.old H1t.out, c2 (HS.out.old H2t.out), HS.out.c 1 0 (v := .int .i64 b.1) rfl rfl, HS.out.c 1 1 (v := .int .i64 b.2) rfl rfl⟩ (fun hHeld => ?_)
                refine run_d rfl (fun K hK => ?_)
                refine st1 HS 0 0 #[.int .i64 v.1, .int .i64 v.2] rfl rfl rfl rfl rfl ?_
                intro w1 HS
                refine goD hK rfl ?_
                repeat (first | ((with_reducible refine gate_p ?_); refine rp rfl rfl ?_) | ((with_reducible refine gate_t ?_); refine rt rfl rfl hHeld ?_))
                refine run_done ?_
                exact ⟨g_pr, rfl, HS⟩
              · skip
                refine run_e rfl (fun K hK => ?_)
                refine bx1 24 #[(.int .i64 0), (.int .i64 0)] HS ?_
                intro g_pr w1 hg_pr HS
                refine ge hK ⟨HS.out.c 5 2 (v := .slice (some ad_A) l.length c) rfl rfl, HS.out.old H1t.out, c2 (HS.out.old H2t.out), HS.out.c 1 0 (v := .int .i64 b.1) rfl rfl, HS.out.c 1 1 (v := .int .i64 b.2) rfl rfl⟩ (fun hHeld => ?_)
                refine run_e rfl (fun K hK => ?_)
                refine gc Try.func192 (HP.out _) rfl rfl ?_
                rintro e_ w1 ⟨rfl, hb⟩
                refine ⟨_, rfl, ?_⟩
                replace HS := sB HS hb
                refine ge hK ⟨HS.out.c 5 2 (v := .slice (some ad_A) l.length c) rfl rfl, HS.out.old H1t.out, c2 (HS.out.old H2t.out), HS.out.c 1 0 (v := .int .i64 b.1) rfl rfl, HS.out.c 1 1 (v := .int .i64 b.2) rfl rfl⟩ (fun hHeld => ?_)
                repeat (first | ((with_reducible refine gate_p ?_); refine rp rfl rfl ?_) | ((with_reducible refine gate_t ?_); refine rt rfl rfl hHeld ?_))
                refine run_d rfl (fun K hK => ?_)
                refine st1 HS 0 0 #[.int .i64 v.1, .int .i64 v.2] rfl rfl rfl rfl rfl ?_
                intro w1 HS
                refine goD hK rfl ?_
                repeat (first | ((with_reducible refine gate_p ?_); refine rp rfl rfl ?_) | ((with_reducible refine gate_t ?_); refine rt rfl rfl hHeld ?_))
                refine run_done ?_
                have n_ := HS.out.sel [0, 1, 2, 3, 4, 5] (by decide)
                simp only [List.filterMap_cons, List.filterMap_nil, List.getElem?_cons_zero, List.getElem?_cons_succ] at n_
                exact ⟨g_pr, rfl, ⟨n_⟩⟩
            clear HS
            rintro a_ w1 ⟨g_pr, rfl, HS⟩
            have f1_ := HS.out.c 2 0 (v := .int .i64 e.1) rfl rfl
            have f2_ := HS.out.c 2 1 (v := .int .i64 e.2) rfl rfl
            have f3_ := HS.out.c 0 0 (v := .int .i64 v.1) rfl rfl
            have f4_ := HS.out.c 0 1 (v := .int .i64 v.2) rfl rfl
            go_wp2_with (first | (go_at_call 193; refine (HQ.out _).mono ?_; rintro e_ w1 ⟨rfl, hb⟩; replace HS := sB HS hb; clear hb f1_ f2_ f3_ f4_) | ((with_reducible refine gate_dst (N := 11) rfl ?_); refine bxL 24 #[(.int .i64 0), (.int .i64 0)] HS ?_; clear HS; intro g_nx w1 hg_nx HS) | ((with_reducible refine gate_store (t := 24) (p := 11) rfl ?_); refine stL HS 0 0 #[.int .i64 f.1, .int .i64 f.2] rfl rfl rfl rfl rfl ?_; clear HS; intro w1 HS; have f1_ := HS.out.c 0 0 (v := .int .i64 f.1) rfl rfl; have f2_ := HS.out.c 0 1 (v := .int .i64 f.2) rfl rfl) | ((with_reducible refine gate_store (t := 24) (p := 6) rfl ?_); refine stL HS 3 0 #[.int .i64 f.1, .int .i64 f.2] rfl rfl rfl rfl rfl ?_; clear HS f1_ f2_; intro w1 HS))
            replace HS : Aside0 (Mod _ _ _ [_, _, _, _]) := sX HS [3, 4, 5, 6]
            go_roundw
            case rel => exact ⟨i + 1, f, by omega, by go_num, HN2, HS⟩
            case measure => simp [intOf]; omega
    · obtain rfl : i = l.length := by omega
      have f1_ := HS.out.c 3 2 (v := .slice A l.length c) rfl rfl
      have f2_ := HS.out.c 0 0 (v := .int .i64 e.1) rfl rfl
      have f3_ := HS.out.c 0 1 (v := .int .i64 e.2) rfl rfl
      go_wp2_with (first | ((with_reducible refine gate_store (t := 24) (p := 4) rfl ?_); refine stL HS 1 0 #[.int .i64 e.1, .int .i64 e.2] rfl rfl rfl rfl rfl ?_; clear HS f1_ f2_ f3_; intro w1 HS))
      refine bodyPost_ret (results_cell_tmp_row rfl _ _ g_r 24 #[.int .i64 e.1, .int .i64 e.2] (0, 0) _ rfl (HS.out.at (i := 1) rfl) Try.underlying24 rfl (by kernel_rfl)) rfl ?_
      have e_ : pairS l l2 = some e := by rw [HPS.out]; have h := HE.out; rwa [List.take_length] at h
      rw [e_]
      exact ⟨rfl, HS.out.below⟩
set_option maxHeartbeats 8000000 in
theorem specPairSeries (d n : Int) (A : Option Addr) (c : Nat) (l : Ts) (d2 n2 : Int) (A2 : Option Addr) (cc : Nat) (l2 : Ts) (w : World) (hr : KT.C w A l.length l) (hc : l.length ≤ c) (hb : bnd l = true) (hr2 : KT.C w A2 l2.length l2) (hcc : l2.length ≤ cc) (hb2 : bnd l2 = true) :
    Calls Try.prog 55 #[.agg #[.int .i64 d, .int .i64 n, .slice A l.length c], .agg #[.int .i64 d2, .int .i64 n2, .slice A2 l2.length cc]] w (RetF w (pairR d n l d2 n2 l2)) := by
  have HR := Aside0.mk hr
  have HB := Aside0.mk hb
  have HR2 := Aside0.mk hr2
  have HB2 := Aside0.mk hb2
  have HS := Aside0.mk (Sep.refl w)
  clear hr hb hr2 hb2
  have HC := Aside0.mk (fun q W k1 k2 k3 => specCode d n A c l d2 n2 A2 cc l2 q W k1 hc HB.out k2 hcc HB2.out k3)
  unfold pairR
  obtain ⟨k, hk⟩ : ∃ k, k = codeR d n l d2 n2 l2 := ⟨_, rfl⟩
  rw [← hk] at HC
  rw [← hk]
  by_cases h0 : k = 0
  · subst h0
    obtain ⟨h1, h2, h3, h4⟩ := codeR_zero hk.symm
    subst h3 h4
    clear hk
    obtain ⟨d, n, rfl, rfl, hd1, hd3, hn1, hn5⟩ := lev_nat (isS_l h1)
    have HP := Aside0.mk (fun W k1 k2 => specPairQ d n hd3 hn5 A c l A2 cc l2 W k1 k2 hcc (isS_t h1) (isS_t h2))
    clear h1 h2
    rw [if_pos rfl]
    obtain ⟨o, ho⟩ : ∃ o, o = pairS l l2 := ⟨_, rfl⟩
    rw [← ho] at HP
    rw [← ho]
    clear ho
    cases o with
    | none =>
      go_enter Try.func55, Try.ntmps55
      go_wp2_with (first | ((with_reducible refine gate_dst (N := 2) rfl ?_); refine bxL 32 #[.int .i64 (d : Int), .int .i64 (n : Int), .slice A l.length c] HS ?_; clear HS; intro g_p w1 hg_p HS) | ((with_reducible refine gate_dst (N := 3) rfl ?_); refine bxL 32 #[.int .i64 (d : Int), .int .i64 (n : Int), .slice A2 l2.length cc] HS ?_; clear HS; intro g_a w1 hg_a HS) | ((with_reducible refine gate_dst (N := 4) rfl ?_); refine bxL 24 #[(.int .i64 0), (.int .i64 0)] HS ?_; clear HS; intro g_r w1 hg_r HS; have f1_ := HS.out.c 2 0 (v := .int .i64 (d : Int)) rfl rfl; have f2_ := HS.out.c 2 1 (v := .int .i64 (n : Int)) rfl rfl; have f3_ := HS.out.c 2 2 (v := .slice A l.length c) rfl rfl; have f4_ := HS.out.c 1 0 (v := .int .i64 (d : Int)) rfl rfl; have f5_ := HS.out.c 1 1 (v := .int .i64 (n : Int)) rfl rfl; have f6_ := HS.out.c 1 2 (v := .slice A2 l2.length cc) rfl rfl) | ((with_reducible refine gate_dst (N := 9) rfl ?_); refine wpList_stp (fun K hK => ?_); refine stp_bs (by rfl) HS (cs := #[.int .i64 (d : Int), .int .i64 (n : Int), .slice A2 l2.length cc]) (t := 32) (m := 1) (by first | (go_simp; done) | (go_simp; rfl)) ?_; clear HS f1_ f2_ f3_ f4_ f5_ f6_; intro g_v w1 hg_v HS; refine hK _ _ ?_; clear hK K) | (go_at_call 132; refine (HC.out g_v _ (HS.out.oldC HR.out) (HS.out.oldC HR2.out) (HS.out.at (i := 0) rfl)).mono ?_; rintro e_ w1 ⟨rfl, hb⟩; replace HS := sB HS hb; clear hb; have f1_ := HS.out.c 3 0 (v := .int .i64 (d : Int)) rfl rfl; have f2_ := HS.out.c 3 1 (v := .int .i64 (n : Int)) rfl rfl; have f3_ := HS.out.c 3 2 (v := .slice A l.length c) rfl rfl; have f4_ := HS.out.c 2 0 (v := .int .i64 (d : Int)) rfl rfl; have f5_ := HS.out.c 2 1 (v := .int .i64 (n : Int)) rfl rfl; have f6_ := HS.out.c 2 2 (v := .slice A2 l2.length cc) rfl rfl) | (go_at_call 133; refine (HP.out _ (HS.out.oldC HR.out) (HS.out.oldC HR2.out)).mono ?_; rintro e_ w1 ⟨rfl, hb⟩; replace HS := sB HS hb; clear hb f1_ f2_ f3_ f4_ f5_ f6_) | (go_at_call 93; refine (specToNo 0 0 _).mono ?_; rintro e_ w1 ⟨rfl, hb⟩; replace HS := sB HS hb; clear hb) | ((with_reducible refine gate_store (t := 24) (p := 4) rfl ?_); refine stL HS 1 0 #[.int .i64 0, .int .i64 0] rfl rfl rfl rfl rfl ?_; clear HS; intro w1 HS))
      refine bodyPost_ret (results_cell_tmp_row rfl _ _ g_r 24 #[.int .i64 0, .int .i64 0] (0, 0) _ rfl (HS.out.at (i := 1) rfl) Try.underlying24 rfl (by kernel_rfl)) rfl ?_
      exact ⟨rfl, HS.out.below⟩
    | some z =>
      go_enter Try.func55, Try.ntmps55
      go_wp2_with (first | ((with_reducible refine gate_dst (N := 2) rfl ?_); refine bxL 32 #[.int .i64 (d : Int), .int .i64 (n : Int), .slice A l.length c] HS ?_; clear HS; intro g_p w1 hg_p HS) | ((with_reducible refine gate_dst (N := 3) rfl ?_); refine bxL 32 #[.int .i64 (d : Int), .int .i64 (n : Int), .slice A2 l2.length cc] HS ?_; clear HS; intro g_a w1 hg_a HS) | ((with_reducible refine gate_dst (N := 4) rfl ?_); refine bxL 24 #[(.int .i64 0), (.int .i64 0)] HS ?_; clear HS; intro g_r w1 hg_r HS; have f1_ := HS.out.c 2 0 (v := .int .i64 (d : Int)) rfl rfl; have f2_ := HS.out.c 2 1 (v := .int .i64 (n : Int)) rfl rfl; have f3_ := HS.out.c 2 2 (v := .slice A l.length c) rfl rfl; have f4_ := HS.out.c 1 0 (v := .int .i64 (d : Int)) rfl rfl; have f5_ := HS.out.c 1 1 (v := .int .i64 (n : Int)) rfl rfl; have f6_ := HS.out.c 1 2 (v := .slice A2 l2.length cc) rfl rfl) | ((with_reducible refine gate_dst (N := 9) rfl ?_); refine wpList_stp (fun K hK => ?_); refine stp_bs (by rfl) HS (cs := #[.int .i64 (d : Int), .int .i64 (n : Int), .slice A2 l2.length cc]) (t := 32) (m := 1) (by first | (go_simp; done) | (go_simp; rfl)) ?_; clear HS f1_ f2_ f3_ f4_ f5_ f6_; intro g_v w1 hg_v HS; refine hK _ _ ?_; clear hK K) | (go_at_call 132; refine (HC.out g_v _ (HS.out.oldC HR.out) (HS.out.oldC HR2.out) (HS.out.at (i := 0) rfl)).mono ?_; rintro e_ w1 ⟨rfl, hb⟩; replace HS := sB HS hb; clear hb; have f1_ := HS.out.c 3 0 (v := .int .i64 (d : Int)) rfl rfl; have f2_ := HS.out.c 3 1 (v := .int .i64 (n : Int)) rfl rfl; have f3_ := HS.out.c 3 2 (v := .slice A l.length c) rfl rfl; have f4_ := HS.out.c 2 0 (v := .int .i64 (d : Int)) rfl rfl; have f5_ := HS.out.c 2 1 (v := .int .i64 (n : Int)) rfl rfl; have f6_ := HS.out.c 2 2 (v := .slice A2 l2.length cc) rfl rfl) | (go_at_call 133; refine (HP.out _ (HS.out.oldC HR.out) (HS.out.oldC HR2.out)).mono ?_; rintro e_ w1 ⟨rfl, hb⟩; replace HS := sB HS hb; clear hb f1_ f2_ f3_ f4_ f5_ f6_) | (go_at_call 93; refine (specToYes z.1 z.2 _).mono ?_; rintro e_ w1 ⟨rfl, hb⟩; replace HS := sB HS hb; clear hb) | ((with_reducible refine gate_store (t := 24) (p := 4) rfl ?_); refine stL HS 1 0 #[.int .i64 z.1, .int .i64 z.2] rfl rfl rfl rfl rfl ?_; clear HS; intro w1 HS))
      refine bodyPost_ret (results_cell_tmp_row rfl _ _ g_r 24 #[.int .i64 z.1, .int .i64 z.2] (0, 0) _ rfl (HS.out.at (i := 1) rfl) Try.underlying24 rfl (by kernel_rfl)) rfl ?_
      exact ⟨rfl, HS.out.below⟩
  · have hkb : (k != 0) = true := by simpa using h0
    rw [if_neg h0]
    clear hk h0
    go_enter Try.func55, Try.ntmps55
    go_wp2_with (first | ((with_reducible refine gate_dst (N := 2) rfl ?_); refine bxL 32 #[.int .i64 d, .int .i64 n, .slice A l.length c] HS ?_; clear HS; intro g_p w1 hg_p HS) | ((with_reducible refine gate_dst (N := 3) rfl ?_); refine bxL 32 #[.int .i64 d2, .int .i64 n2, .slice A2 l2.length cc] HS ?_; clear HS; intro g_a w1 hg_a HS) | ((with_reducible refine gate_dst (N := 4) rfl ?_); refine bxL 24 #[(.int .i64 0), (.int .i64 0)] HS ?_; clear HS; intro g_r w1 hg_r HS; have f1_ := HS.out.c 2 0 (v := .int .i64 d) rfl rfl; have f2_ := HS.out.c 2 1 (v := .int .i64 n) rfl rfl; have f3_ := HS.out.c 2 2 (v := .slice A l.length c) rfl rfl; have f4_ := HS.out.c 1 0 (v := .int .i64 d2) rfl rfl; have f5_ := HS.out.c 1 1 (v := .int .i64 n2) rfl rfl; have f6_ := HS.out.c 1 2 (v := .slice A2 l2.length cc) rfl rfl) | ((with_reducible refine gate_dst (N := 9) rfl ?_); refine wpList_stp (fun K hK => ?_); refine stp_bs (by rfl) HS (cs := #[.int .i64 d2, .int .i64 n2, .slice A2 l2.length cc]) (t := 32) (m := 1) (by first | (go_simp; done) | (go_simp; rfl)) ?_; clear HS f1_ f2_ f3_ f4_ f5_ f6_; intro g_v w1 hg_v HS; refine hK _ _ ?_; clear hK K) | (go_at_call 132; refine (HC.out g_v _ (HS.out.oldC HR.out) (HS.out.oldC HR2.out) (HS.out.at (i := 0) rfl)).mono ?_; rintro e_ w1 ⟨rfl, hb⟩; replace HS := sB HS hb; clear hb) | ((with_reducible refine gate_store (t := 24) (p := 4) rfl ?_); refine stL HS 1 0 #[(.int .i64 0), (.int .i64 0)] rfl rfl rfl rfl rfl ?_; clear HS; intro w1 HS))
    refine bodyPost_ret (results_cell_tmp_row rfl _ _ g_r 24 #[(.int .i64 0), (.int .i64 0)] (0, 0) _ rfl (HS.out.at (i := 1) rfl) Try.underlying24 rfl (by kernel_rfl)) rfl ?_
    exact ⟨rfl, HS.out.below⟩
set_option maxHeartbeats 8000000 in
theorem implPairSeries (d n : Int) (A : Option Addr) (c : Nat) (l : Ts) (d2 n2 : Int) (A2 : Option Addr) (cc : Nat) (l2 : Ts) (w : World) (hr : KT.C w A l.length l) (hc : l.length ≤ c) (hb : bnd l = true) (hr2 : KT.C w A2 l2.length l2) (hcc : l2.length ≤ cc) (hb2 : bnd l2 = true) :
    Calls Try.prog 56 #[.agg #[.int .i64 d, .int .i64 n, .slice A l.length c], .agg #[.int .i64 d2, .int .i64 n2, .slice A2 l2.length cc]] w (RetF w (pairR d n l d2 n2 l2)) := by
  have HR := Aside0.mk hr
  have HB := Aside0.mk hb
  have HR2 := Aside0.mk hr2
  have HB2 := Aside0.mk hb2
  have HS := Aside0.mk (Sep.refl w)
  clear hr hb hr2 hb2
  have HC := Aside0.mk (fun W k1 k2 => implCode d n A c l d2 n2 A2 cc l2 W k1 hc HB.out k2 hcc HB2.out)
  unfold pairR
  obtain ⟨k, hk⟩ : ∃ k, k = codeR d n l d2 n2 l2 := ⟨_, rfl⟩
  rw [← hk] at HC
  rw [← hk]
  by_cases h0 : k = 0
  · subst h0
    obtain ⟨h1, h2, h3, h4⟩ := codeR_zero hk.symm
    subst h3 h4
    clear hk
    have HX := Aside0.mk (isS_t h1)
    have HY := Aside0.mk (isS_t h2)
    have hlev := isS_l h1
    obtain ⟨d, n, rfl, rfl, hd1, hd3, hn1, hn5⟩ := lev_nat hlev
    have HL := Aside0.mk hlev
    clear h1 h2 hlev
    rw [Int.toNat_natCast, Int.toNat_natCast] at HX HY
    rw [if_pos rfl]
    have hll := (bnd_iff.1 HB.out).1
    have hN0 : 0 < nW d n := num_lt' (s := eps) (by rfl) (Nat.zero_le _)
    have HNW := Aside0.mk (fun W => implNew d n HL.out W)
    have HOP := Aside0.mk (fun W k1 => implOpen d n A2 cc l2 W HL.out k1 HY.out)
    have HAT := Aside0.mk (fun g v s W k1 k2 k3 k4 => implAt g v d n false (co l2) s W HL.out k1 k2 k3 k4)
    have HAD := Aside0.mk (fun g v (H : Tb) a b W k1 k2 k5 k6 k7 => implAddTimes g v d n H.2 H.1 eps a b W HL.out k1 k2 (by rfl) (Nat.zero_le _) k5 k6 k7)
    have HTM := Aside0.mk (fun j (h : j < l.length) => (isTs_iff.1 HX.out).1 _ (List.getElem_mem h))
    have HCF := Aside0.mk (fun u => co_fr HY.out u)
    have HEND := Aside0.mk (pair_end l l2)
    obtain ⟨N, hN⟩ : ∃ N, N = nW d n := ⟨_, rfl⟩
    rw [← hN] at hN0 HNW HOP HAT HAD
    clear hN
    go_enter Try.func56, Try.ntmps56
    go_wp2_with (first | ((with_reducible refine gate_dst (N := 2) rfl ?_); refine bxL 32 #[.int .i64 (d : Int), .int .i64 (n : Int), .slice A l.length c] HS ?_; clear HS; intro g_p w1 hg_p HS) | ((with_reducible refine gate_dst (N := 3) rfl ?_); refine bxL 32 #[.int .i64 (d : Int), .int .i64 (n : Int), .slice A2 l2.length cc] HS ?_; clear HS; intro g_a w1 hg_a HS) | ((with_reducible refine gate_dst (N := 4) rfl ?_); refine bxL 24 #[(.int .i64 0), (.int .i64 0)] HS ?_; clear HS; intro g_r w1 hg_r HS; have f1_ := HS.out.c 2 0 (v := .int .i64 (d : Int)) rfl rfl; have f2_ := HS.out.c 2 1 (v := .int .i64 (n : Int)) rfl rfl; have f3_ := HS.out.c 2 2 (v := .slice A l.length c) rfl rfl; have f4_ := HS.out.c 1 0 (v := .int .i64 (d : Int)) rfl rfl; have f5_ := HS.out.c 1 1 (v := .int .i64 (n : Int)) rfl rfl; have f6_ := HS.out.c 1 2 (v := .slice A2 l2.length cc) rfl rfl) | (go_at_call 134; refine (HC.out _ (HS.out.oldC HR.out) (HS.out.oldC HR2.out)).mono ?_; rintro e_ w1 ⟨rfl, hb⟩; replace HS := sB HS hb; clear hb f1_ f2_ f3_ f4_ f5_ f6_))
    replace HS := sD HS
    refine ps (.p 0 (.p 2 (.t 1 (.t 3 (.t 5 (.e 4 (.d 6 (.p 7 (.p 8 .done))))))))) (fun w' => w'.cell? ⟨g_p, 0, none⟩ = some (.int .i64 (d : Int)) ∧ w'.cell? ⟨g_p, 1, none⟩ = some (.int .i64 (n : Int)) ∧ w'.cell? ⟨g_a, 0, none⟩ = some (.int .i64 (d : Int)) ∧ w'.cell? ⟨g_a, 1, none⟩ = some (.int .i64 (n : Int)) ∧ w'.cell? ⟨g_a, 2, none⟩ = some (.slice A2 l2.length cc)) [6] ⟨HS.out.c 2 0 (v := .int .i64 (d : Int)) rfl rfl, HS.out.c 2 1 (v := .int .i64 (n : Int)) rfl rfl, HS.out.c 1 0 (v := .int .i64 (d : Int)) rfl rfl, HS.out.c 1 1 (v := .int .i64 (n : Int)) rfl rfl, HS.out.c 1 2 (v := .slice A2 l2.length cc) rfl rfl⟩ (fun hHeld => ?_)
    repeat (first | ((with_reducible refine gate_p ?_); refine rp rfl rfl ?_) | ((with_reducible refine gate_t ?_); refine rt rfl rfl hHeld ?_))
    refine run_e rfl (fun K hK => ?_)
    refine gc Try.func114 (HNW.out _) rfl rfl ?_
    rintro e_ w1 ⟨g, v, rfl, hs⟩
    refine ⟨_, rfl, ?_⟩
    replace HS := sN2 HS hs
    clear hs
    refine ge hK ⟨HS.out.c 4 0 (v := .int .i64 (d : Int)) rfl rfl, HS.out.c 4 1 (v := .int .i64 (n : Int)) rfl rfl, HS.out.c 3 0 (v := .int .i64 (d : Int)) rfl rfl, HS.out.c 3 1 (v := .int .i64 (n : Int)) rfl rfl, HS.out.c 3 2 (v := .slice A2 l2.length cc) rfl rfl⟩ (fun hHeld => ?_)
    clear hK K
    refine run_d rfl (fun K hK => ?_)
    refine gc Try.func126 (HOP.out _ (HS.out.oldC HR2.out)) rfl rfl ?_
    rintro e_ w1 ⟨g2, v2, rfl, hs⟩
    refine ⟨_, rfl, ?_⟩
    replace HS := sN2 HS hs
    clear hs
    refine gd hK ?_
    clear hK K
    repeat (first | ((with_reducible refine gate_p ?_); refine rp rfl rfl ?_) | ((with_reducible refine gate_t ?_); refine rt rfl rfl hHeld ?_))
    refine run_done ?_
    clear hHeld
    have f1_ := HS.out.c 6 2 (v := .slice A l.length c) rfl rfl
    go_wp2
    go_loopw [29] (fun q w' => ∃ (i : Nat) (F : Tb), i ≤ l.length ∧ q = .int .i64 (i : Int) ∧ Aside0 (F = addsT ((fun _ => (0, 1)), false) ((pairU (l.take i) l2).map fun p => (eps, p))) ∧ Aside0 (good F.1) ∧ Aside0 (Mod w w' No [bx g2 106 #[.int .i64 (d : Int), .int .i64 (n : Int), .slice (some ⟨v2, 0, none⟩) N N, .bool false], tV v2 d n (co l2), bx g 106 #[.int .i64 (d : Int), .int .i64 (n : Int), .slice (some ⟨v, 0, none⟩) N N, .bool F.2], tV v d n F.1, bx g_r 24 #[(.int .i64 0), (.int .i64 0)], bx g_a 32 #[.int .i64 (d : Int), .int .i64 (n : Int), .slice A2 l2.length cc], bx g_p 32 #[.int .i64 (d : Int), .int .i64 (n : Int), .slice A l.length c]])) (fun q _ => l.length - (intOf q).toNat)
    case atStart => exact ⟨0, ((fun _ => (0, 1)), false), by omega, rfl, ⟨rfl⟩, ⟨good_zero⟩, HS⟩
    case round =>
      clear HS
      obtain ⟨i, F, hi, rfl, HF, HGd, HS⟩ := hrel
      by_cases hlt : i < l.length
      · have hgt := List.getElem?_eq_getElem hlt
        have hgt2 := getD_lt l zT i hlt
        have htm := HTM.out i hlt
        obtain ⟨ad_A, ea_, h0_, h1_, h2_⟩ := tm_at HR.out i (hlt)
        cases ea_
        obtain ⟨t_, ht_⟩ : ∃ t_, t_ = l.getD i zT := ⟨_, rfl⟩
        rw [← ht_] at h0_ h1_ h2_
        have Et_ := Aside0.mk ht_; have H0t_ := Aside0.mk h0_; have H1t_ := Aside0.mk h1_; have H2t_ := Aside0.mk h2_
        clear ht_ h0_ h1_ h2_
        rw [← hgt2, ← Et_.out] at hgt htm
        have HNX := Aside0.mk (pairU_next (y := l2) hgt)
        obtain ⟨z1, z2, z3, z4⟩ := isTm_fr htm
        have HZ1 := Aside0.mk z1
        have HZ3 := Aside0.mk z3
        clear hgt hgt2 htm z1 z2 z3
        obtain ⟨b, hb⟩ : ∃ b, b = co l2 t_.1 := ⟨_, rfl⟩
        have HV := Aside0.mk (fun g v W k1 k2 => hb ▸ HAT.out g v t_.1 W k1 k2 HZ3.out z4)
        have HBF := Aside0.mk (show fr b = true by rw [hb]; exact HCF.out _)
        rw [← hb] at HNX
        clear hb
        by_cases hz : b.1 = 0
        · have hzb : (b.1 != 0) = false := by rw [hz]; rfl
          have HN := Aside0.mk (show F = addsT ((fun _ => (0, 1)), false) ((pairU (l.take (i + 1)) l2).map fun p => (eps, p)) by rw [HNX.out, if_pos hz, List.append_nil]; exact HF.out)
          clear hz
          have f1_ := HS.out.old H0t_.out
          have f2_ := HS.out.old H1t_.out
          have f3_ := HS.out.old H2t_.out
          go_wp2_with (first | ((with_reducible refine gate_dst (N := 10) rfl ?_); refine bxL 77 #[(.string ⟨#[]⟩), (.int .i64 0), (.int .i64 0)] HS ?_; clear HS f1_ f2_ f3_; intro g_x w1 hg_x HS) | ((with_reducible refine gate_store (t := 77) (p := 10) rfl ?_); refine stL HS 0 0 #[.string t_.1, .int .i64 t_.2.1, .int .i64 t_.2.2] rfl rfl rfl rfl rfl ?_; clear HS; intro w1 HS; have f1_ := HS.out.c 0 0 (v := .string t_.1) rfl rfl) | (go_at_call 127; refine (HV.out g2 v2 _ (HS.out.at (i := 1) rfl) (HS.out.at (i := 2) rfl)).mono ?_; rintro e_ w1 ⟨rfl, hb⟩; replace HS := sB HS hb; clear hb f1_) | ((with_reducible refine gate_dst (N := 11) rfl ?_); refine bxL 24 #[(.int .i64 0), (.int .i64 0)] HS ?_; clear HS; intro g_vb w1 hg_vb HS) | ((with_reducible refine gate_store (t := 24) (p := 11) rfl ?_); refine stL HS 0 0 #[.int .i64 b.1, .int .i64 b.2] rfl rfl rfl rfl rfl ?_; clear HS; intro w1 HS; have f1_ := HS.out.c 0 0 (v := .int .i64 b.1) rfl rfl))
          replace HS : Aside0 (Mod _ _ _ [_, _, _, _, _, _, _]) := sX HS [2, 3, 4, 5, 6, 7, 8]
          go_roundw
          case rel => exact ⟨i + 1, F, by omega, by go_num, HN, HGd, HS⟩
          case measure => simp [intOf]; omega
        · have hzb : (b.1 != 0) = true := by simpa using hz
          have HN := Aside0.mk (show addT (F.1, F.2) (eps, mul t_.2 b) = addsT ((fun _ => (0, 1)), false) ((pairU (l.take (i + 1)) l2).map fun p => (eps, p)) by rw [HNX.out, if_neg hz, List.map_append]; unfold addsT; rw [List.foldl_append, show List.foldl addT ((fun _ => (0, 1)), false) ((pairU (l.take i) l2).map fun p => (eps, p)) = F from HF.out.symm]; rfl)
          clear hz
          have f1_ := HS.out.old H0t_.out
          have f2_ := HS.out.old H1t_.out
          have f3_ := HS.out.old H2t_.out
          go_wp2_with (first | ((with_reducible refine gate_dst (N := 10) rfl ?_); refine bxL 77 #[(.string ⟨#[]⟩), (.int .i64 0), (.int .i64 0)] HS ?_; clear HS f1_ f2_ f3_; intro g_x w1 hg_x HS) | ((with_reducible refine gate_store (t := 77) (p := 10) rfl ?_); refine stL HS 0 0 #[.string t_.1, .int .i64 t_.2.1, .int .i64 t_.2.2] rfl rfl rfl rfl rfl ?_; clear HS; intro w1 HS; have f1_ := HS.out.c 0 0 (v := .string t_.1) rfl rfl) | (go_at_call 127; refine (HV.out g2 v2 _ (HS.out.at (i := 1) rfl) (HS.out.at (i := 2) rfl)).mono ?_; rintro e_ w1 ⟨rfl, hb⟩; replace HS := sB HS hb; clear hb f1_) | ((with_reducible refine gate_dst (N := 11) rfl ?_); refine bxL 24 #[(.int .i64 0), (.int .i64 0)] HS ?_; clear HS; intro g_vb w1 hg_vb HS) | ((with_reducible refine gate_store (t := 24) (p := 11) rfl ?_); refine stL HS 0 0 #[.int .i64 b.1, .int .i64 b.2] rfl rfl rfl rfl rfl ?_; clear HS; intro w1 HS; have f1_ := HS.out.c 0 0 (v := .int .i64 b.1) rfl rfl; have f2_ := HS.out.c 1 1 (v := .int .i64 t_.2.1) rfl rfl; have f3_ := HS.out.c 1 2 (v := .int .i64 t_.2.2) rfl rfl; have f4_ := HS.out.c 0 1 (v := .int .i64 b.2) rfl rfl) | (go_at_call 135; refine (HAD.out g v F t_.2 b _ (HS.out.at (i := 4) rfl) (HS.out.at (i := 5) rfl) (HGd.out _) HZ1.out HBF.out).mono ?_; rintro e_ w1 ⟨rfl, hs⟩; replace HS : Aside0 (Mod _ _ _ [_, _, _, _, _, _, _, _, _]) := sM2 HS 4 5 [0, 1, 2, 3, 6, 7, 8] rfl rfl hs; clear hs f1_ f2_ f3_ f4_))
          go_roundw
          case rel => exact ⟨i + 1, addT (F.1, F.2) (eps, mul t_.2 b), by omega, by go_num, HN, ⟨addT_good HGd.out fun a ha => mul_fr ha⟩, sX HS [4, 5, 0, 1, 6, 7, 8]⟩
          case measure => simp [intOf]; omega
      · obtain rfl : i = l.length := by omega
        have HF2 := Aside0.mk (show F = addsT ((fun _ => (0, 1)), false) ((pairU l l2).map fun p => (eps, p)) by have h := HF.out; rwa [List.take_length] at h)
        obtain ⟨f, hf⟩ : ∃ f, f = F.1 eps := ⟨_, rfl⟩
        have HFE := Aside0.mk hf.symm
        obtain ⟨bd, hbd⟩ : ∃ bd, bd = F.2 := ⟨_, rfl⟩
        rw [← hbd] at HS
        have hend := HEND.out
        rw [← HF2.out, ← hf, ← hbd] at hend
        have HENDF := Aside0.mk hend
        clear hf hbd hend
        cases bd with
        | true =>
          go_wp2
          replace HS := sD HS
          refine ps (.p 0 (.p 1 (.p 2 (.p 6 (.p 7 (.p 8 (.t 3 (.p 4 (.t 5 (.t 9 (.p 10 (.d 11 (.p 12 (.p 13 (.d 14 (.p 15 .done)))))))))))))))) (fun w' => w'.cell? ⟨g, 2, none⟩ = some (.slice (some ⟨v, 0, none⟩) N N) ∧ w'.cell? ⟨v, 0, none⟩ = some (.int .i64 f.1) ∧ w'.cell? ⟨v, 1, none⟩ = some (.int .i64 f.2) ∧ w'.cell? ⟨g, 3, none⟩ = some (.bool true)) [11, 14] ⟨HS.out.c 2 2 (v := .slice (some ⟨v, 0, none⟩) N N) rfl rfl, (tv_eps (HS.out.at (i := 3) rfl) HFE.out).1, (tv_eps (HS.out.at (i := 3) rfl) HFE.out).2, HS.out.c 2 3 (v := .bool true) rfl rfl⟩ (fun hHeld => ?_)
          repeat (first | ((with_reducible refine gate_p ?_); refine rp rfl rfl ?_) | ((with_reducible refine gate_t ?_); refine rt rfl rfl hHeld ?_))
          refine run_d rfl (fun K hK => ?_)
          refine gc Try.func96 (implToNo f.1 f.2 _) rfl rfl ?_
          rintro e_ w1 ⟨rfl, hb⟩
          refine ⟨_, rfl, ?_⟩
          replace HS := sB HS hb
          clear hb
          refine gd hK ?_
          clear hK K
          repeat (first | ((with_reducible refine gate_p ?_); refine rp rfl rfl ?_) | ((with_reducible refine gate_t ?_); refine rt rfl rfl hHeld ?_))
          refine run_d rfl (fun K hK => ?_)
          refine st1 HS 4 0 #[.int .i64 0, .int .i64 0] rfl rfl rfl rfl rfl ?_
          clear HS
          intro w1 HS
          refine goD hK rfl ?_
          clear hK K
          repeat (first | ((with_reducible refine gate_p ?_); refine rp rfl rfl ?_) | ((with_reducible refine gate_t ?_); refine rt rfl rfl hHeld ?_))
          refine run_done ?_
          clear hHeld
          go_wp2
          refine bodyPost_ret (results_cell_tmp_row rfl _ _ g_r 24 #[.int .i64 0, .int .i64 0] (0, 0) _ rfl (HS.out.at (i := 4) rfl) Try.underlying24 rfl (by kernel_rfl)) rfl ?_
          rcases HENDF.out with ⟨e1, e2⟩ | ⟨z, e1, e2, e3⟩
          · rw [e1]; exact ⟨rfl, HS.out.below⟩
          · cases e2
        | false =>
          go_wp2
          replace HS := sD HS
          refine ps (.p 0 (.p 1 (.p 2 (.p 6 (.p 7 (.p 8 (.t 3 (.p 4 (.t 5 (.t 9 (.p 10 (.d 11 (.p 12 (.p 13 (.d 14 (.p 15 .done)))))))))))))))) (fun w' => w'.cell? ⟨g, 2, none⟩ = some (.slice (some ⟨v, 0, none⟩) N N) ∧ w'.cell? ⟨v, 0, none⟩ = some (.int .i64 f.1) ∧ w'.cell? ⟨v, 1, none⟩ = some (.int .i64 f.2) ∧ w'.cell? ⟨g, 3, none⟩ = some (.bool false)) [11, 14] ⟨HS.out.c 2 2 (v := .slice (some ⟨v, 0, none⟩) N N) rfl rfl, (tv_eps (HS.out.at (i := 3) rfl) HFE.out).1, (tv_eps (HS.out.at (i := 3) rfl) HFE.out).2, HS.out.c 2 3 (v := .bool false) rfl rfl⟩ (fun hHeld => ?_)
          repeat (first | ((with_reducible refine gate_p ?_); refine rp rfl rfl ?_) | ((with_reducible refine gate_t ?_); refine rt rfl rfl hHeld ?_))
          refine run_d rfl (fun K hK => ?_)
          refine gc Try.func96 (implToYes f.1 f.2 _) rfl rfl ?_
          rintro e_ w1 ⟨rfl, hb⟩
          refine ⟨_, rfl, ?_⟩
          replace HS := sB HS hb
          clear hb
          refine gd hK ?_
          clear hK K
          repeat (first | ((with_reducible refine gate_p ?_); refine rp rfl rfl ?_) | ((with_reducible refine gate_t ?_); refine rt rfl rfl hHeld ?_))
          refine run_d rfl (fun K hK => ?_)
          refine st1 HS 4 0 #[.int .i64 f.1, .int .i64 f.2] rfl rfl rfl rfl rfl ?_
          clear HS
          intro w1 HS
          refine goD hK rfl ?_
          clear hK K
          repeat (first | ((with_reducible refine gate_p ?_); refine rp rfl rfl ?_) | ((with_reducible refine gate_t ?_); refine rt rfl rfl hHeld ?_))
          refine run_done ?_
          clear hHeld
          go_wp2
          refine bodyPost_ret (results_cell_tmp_row rfl _ _ g_r 24 #[.int .i64 f.1, .int .i64 f.2] (0, 0) _ rfl (HS.out.at (i := 4) rfl) Try.underlying24 rfl (by kernel_rfl)) rfl ?_
          rcases HENDF.out with ⟨e1, e2⟩ | ⟨z, e1, e2, e3⟩
          · cases e2
          · rw [e1, ← e3]; exact ⟨rfl, HS.out.below⟩
  · have hkb : (k != 0) = true := by simpa using h0
    rw [if_neg h0]
    clear hk h0
    go_enter Try.func56, Try.ntmps56
    go_wp2_with (first | ((with_reducible refine gate_dst (N := 2) rfl ?_); refine bxL 32 #[.int .i64 d, .int .i64 n, .slice A l.length c] HS ?_; clear HS; intro g_p w1 hg_p HS) | ((with_reducible refine gate_dst (N := 3) rfl ?_); refine bxL 32 #[.int .i64 d2, .int .i64 n2, .slice A2 l2.length cc] HS ?_; clear HS; intro g_a w1 hg_a HS) | ((with_reducible refine gate_dst (N := 4) rfl ?_); refine bxL 24 #[(.int .i64 0), (.int .i64 0)] HS ?_; clear HS; intro g_r w1 hg_r HS; have f1_ := HS.out.c 2 0 (v := .int .i64 d) rfl rfl; have f2_ := HS.out.c 2 1 (v := .int .i64 n) rfl rfl; have f3_ := HS.out.c 2 2 (v := .slice A l.length c) rfl rfl; have f4_ := HS.out.c 1 0 (v := .int .i64 d2) rfl rfl; have f5_ := HS.out.c 1 1 (v := .int .i64 n2) rfl rfl; have f6_ := HS.out.c 1 2 (v := .slice A2 l2.length cc) rfl rfl) | (go_at_call 134; refine (HC.out _ (HS.out.oldC HR.out) (HS.out.oldC HR2.out)).mono ?_; rintro e_ w1 ⟨rfl, hb⟩; replace HS := sB HS hb; clear hb f1_ f2_ f3_ f4_ f5_ f6_) | ((with_reducible refine gate_store (t := 24) (p := 4) rfl ?_); refine stL HS 0 0 #[(.int .i64 0), (.int .i64 0)] rfl rfl rfl rfl rfl ?_; clear HS; intro w1 HS))
    refine bodyPost_ret (results_cell_tmp_row rfl _ _ g_r 24 #[(.int .i64 0), (.int .i64 0)] (0, 0) _ rfl (HS.out.at (i := 0) rfl) Try.underlying24 rfl (by kernel_rfl)) rfl ?_
    exact ⟨rfl, HS.out.below⟩
end Go.Proofs.Ytcklblagklojhaa.H

