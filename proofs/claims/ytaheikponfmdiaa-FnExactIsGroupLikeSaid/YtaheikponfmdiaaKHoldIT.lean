/- IsGroupLike: what the program and the reference return. Conditions: the bounds that stand in each statement. -/
import Derived.Test.YtaheikponfmdiaaKHoldR
import Derived.Test.YtaheikponfmdiaaKAtI
import Derived.Test.YtaheikponfmdiaaKHoldST
namespace Go.Proofs.Ytaheikponfmdiaa.H
open Go.RowKit Go.Proofs.YtaheikponfmdiaaW.PrintWords Go.Proofs.YtaheikponfmdiaaW.PrintLast Go.Proofs.YtaheikponfmdiaaW.PrintMore Go.Proofs.Ytaheikponfmdiaa.M
attribute [local go_sem] max2_int min2_int max_two min_two max_three min_three max_four min_four
set_option linter.unusedVariables false
set_option linter.unusedSimpArgs false
set_option maxRecDepth 100000
set_option maxHeartbeats 8000000 in
theorem implWantT (g v d n : Nat) (l : Ts) (a b : ByteArray) (W : World) (hl : lev d n = true) (hx : isTs d n l = true) (ht : (tS g v d n (nW d n) false).I W) (hv : (tV v d n (co l)).I W) (ha : isWd d a = true) (ha2 : a.size ≤ n) (hb : isWd d b = true) (hb2 : b.size ≤ n) :
    Calls Try.prog 108 #[.pointer (some ⟨g, 0, none⟩), .string a, .string b] W (RetFX W (wantS true l a b)) := by
  have HT := Aside0.mk ht
  have HV := Aside0.mk hv
  have HAT1 := Aside0.mk (fun X k1 k2 => implAt g v d n false (co l) a X hl k1 k2 ha ha2)
  have HAT2 := Aside0.mk (fun X k1 k2 => implAt g v d n false (co l) b X hl k1 k2 hb hb2)
  have HP := Aside0.mk (fun X => implTimesF (co l a) (co l b) X (co_fr hx a) (co_fr hx b))
  obtain ⟨o, ho⟩ : ∃ o, o = mul (co l a) (co l b) := ⟨_, rfl⟩
  rw [← ho] at HP
  rw [show wantS true l a b = o from ho.symm]
  have HS := Aside0.mk (Sep.refl W)
  clear ht hv hl hx ha hb ho
  go_enter Try.func108, Try.ntmps108
  have tk1_ : True := trivial
  go_wp2_with (first | ((with_reducible refine gate_dst (N := 6) rfl ?_); refine bxL 35 #[(.int .i64 0), (.int .i64 0)] HS ?_; clear HS; intro g_r w1 hg_r HS) | (go_at_call 109; clear tk1_; refine (HAT1.out _ (HS.out.oldI HT.out) (HS.out.oldI HV.out)).mono ?_; rintro e_ w1 ⟨rfl, hb⟩; replace HS := sB HS hb; clear hb) | (go_at_call 109; refine (HAT2.out _ (HS.out.oldI HT.out) (HS.out.oldI HV.out)).mono ?_; rintro e_ w1 ⟨rfl, hb⟩; replace HS := sB HS hb; clear hb) | (go_at_call 110; refine (HP.out _).mono ?_; rintro e_ w1 ⟨x, y, hxy, rfl, hb⟩; replace HS := sB HS hb; clear hb) | ((with_reducible refine gate_store (t := 35) (p := 6) rfl ?_); refine stL HS 0 0 #[.int .i64 x, .int .i64 y] rfl rfl rfl rfl rfl ?_; clear HS; intro w1 HS))
  refine bodyPost_ret (results_cell_tmp_row rfl _ _ g_r 35 #[.int .i64 x, .int .i64 y] (0, 0) _ rfl (HS.out.at (i := 0) rfl) Try.underlying35 rfl (by kernel_rfl)) rfl ?_
  exact ⟨x, y, hxy, rfl, HS.out.below⟩
set_option maxHeartbeats 16000000 in
theorem implHoldsT (d n : Int) (A : Option Addr) (c : Nat) (l : Ts) (w : World) (hr : KT.C w A l.length l) (hc : l.length ≤ c) (hb : bnd l = true) :
    Calls Try.prog 105 #[.agg #[.int .i64 d, .int .i64 n, .slice A l.length c], .int .i64 1, .func (.func 108) #[] #[]] w (RetB w (holdR true d n l)) := by
  have HR := Aside0.mk hr
  have HB := Aside0.mk hb
  have HS := Aside0.mk (Sep.refl w)
  clear hr hb
  unfold holdR
  cases h : isS d n l with
  | false =>
    go_enter Try.func105, Try.ntmps105
    go_wp2_with (first | ((with_reducible refine gate_dst (N := 3) rfl ?_); refine bxL 24 #[.int .i64 d, .int .i64 n, .slice A l.length c] HS ?_; clear HS; intro g_p w1 hg_p HS; have f1_ := HS.out.c 0 0 (v := .int .i64 d) rfl rfl; have f2_ := HS.out.c 0 1 (v := .int .i64 n) rfl rfl; have f3_ := HS.out.c 0 2 (v := .slice A l.length c) rfl rfl) | (go_at_call 98; refine (implIs d n A c l _ (HS.out.oldC HR.out) hc HB.out).mono ?_; rintro e_ w1 ⟨rfl, hb⟩; replace HS := sB HS hb; clear hb f1_ f2_ f3_))
    go_ret2
    exact ⟨rfl, HS.out.below⟩
  | true =>
    have HX := Aside0.mk (isS_t h)
    have hlev := isS_l h
    obtain ⟨d, n, rfl, rfl, hd1, hd3, hn1, hn5⟩ := lev_nat hlev
    have hd9 : d ≤ 9 := by omega
    rw [Int.toNat_natCast, Int.toNat_natCast] at HX ⊢
    rw [if_pos rfl]
    have hN0 : 0 < nW d n := num_lt' (s := eps) (by rfl) (Nat.zero_le _)
    have HOP := Aside0.mk (fun W k1 => implOpen d n A c l W hlev k1 HX.out)
    have HAW := Aside0.mk (fun m X (h : m ≤ 5) => implAllWords d m X hd3 h)
    have HWT := Aside0.mk (fun g v a b X k1 k2 k3 k4 k5 k6 => implWantT g v d n l a b X hlev HX.out k1 k2 k3 k4 k5 k6)
    have HAS := Aside0.mk (fun g v a b X k1 k2 k3 => implAtS g v d n l a b X hlev HX.out k1 k2 k3)
    have HOUT := Aside0.mk (show holdS d n true l = ((words1 d n).findSome? fun v => rowP d n true l v (words1 d (n - v.size))).getD (true, 0) from rfl)
    have HMEM := Aside0.mk (fun (m i : Nat) (s : ByteArray) (h : (words1 d m)[i]? = some s) => words1_mem hd9 (List.mem_of_getElem? h))
    have HLEN := Aside0.mk (fun m => words1_length d m)
    have HTWO := Aside0.mk (fun m (h : 1 ≤ m) => allW_two (m := m) hd1 h)
    have HLE := Aside0.mk (fun m (h : m ≤ 5) => allW_le (m := m) hd3 h)
    have HONE := Aside0.mk (allW_one d)
    obtain ⟨N, hN⟩ : ∃ N, N = nW d n := ⟨_, rfl⟩
    rw [← hN] at hN0 HOP HWT HAS
    clear hN hlev
    obtain ⟨e, he⟩ : ∃ e : Fr, e = co l eps := ⟨_, rfl⟩
    have HE := Aside0.mk he.symm
    rw [← he, show (if (true : Bool) = true then (1 : Int) else 0) = 1 from rfl]
    clear he
    by_cases hz : e = (1, 1)
    · subst hz
      rw [if_pos rfl]
      obtain ⟨ws, hws⟩ : ∃ ws, ws = allW d n := ⟨_, rfl⟩
      have HWA := Aside0.mk (fun X => hws ▸ HAW.out n X hn5)
      have hw2 : 2 ≤ ws.length := by rw [hws]; exact HTWO.out n hn1
      have h1w : (1 : Int) ≤ (ws.length : Int) := by omega
      have hwl : ws.length ≤ 10000 := by rw [hws]; exact HLE.out n hn5
      have HWI := Aside0.mk (fun i s (h : ws[i + 1]? = some s) => words1_at (d := d) (m := n) (by rw [← hws]; exact h))
      have HWN := Aside0.mk (show (words1 d n).length = ws.length - 1 by rw [hws]; exact HLEN.out n)
      clear hws
      go_enter Try.func105, Try.ntmps105
      go_wp2_with (first | ((with_reducible refine gate_dst (N := 3) rfl ?_); refine bxL 24 #[.int .i64 (d : Int), .int .i64 (n : Int), .slice A l.length c] HS ?_; clear HS; intro g_p w1 hg_p HS; have f1_ := HS.out.c 0 0 (v := .int .i64 (d : Int)) rfl rfl; have f2_ := HS.out.c 0 1 (v := .int .i64 (n : Int)) rfl rfl; have f3_ := HS.out.c 0 2 (v := .slice A l.length c) rfl rfl) | (go_at_call 98; refine (implIs d n A c l _ (HS.out.oldC HR.out) hc HB.out).mono ?_; rintro e_ w1 ⟨rfl, hb⟩; replace HS := sB HS hb; clear hb f1_ f2_ f3_; have f1_ := HS.out.c 0 0 (v := .int .i64 (d : Int)) rfl rfl; have f2_ := HS.out.c 0 1 (v := .int .i64 (n : Int)) rfl rfl; have f3_ := HS.out.c 0 2 (v := .slice A l.length c) rfl rfl) | (go_at_call 100; refine (HOP.out _ (HS.out.oldC HR.out)).mono ?_; rintro e_ w1 ⟨g, v, rfl, hs⟩; replace HS := sN2 HS hs; clear hs f1_ f2_ f3_))
      replace HS := sD HS
      refine ps (.p 0 (.p 1 (.p 2 (.p 6 (.t 3 (.p 4 (.t 5 (.e 7 (.p 8 .done))))))))) (fun w' => w'.cell? ⟨g, 2, none⟩ = some (.slice (some ⟨v, 0, none⟩) N N) ∧ w'.cell? ⟨v, 0, none⟩ = some (.int .i64 1) ∧ w'.cell? ⟨v, 1, none⟩ = some (.int .i64 1)) [] ⟨HS.out.c 0 2 (v := .slice (some ⟨v, 0, none⟩) N N) rfl rfl, ((tv_eps (HS.out.at (i := 1) rfl) HE.out).1.trans rfl), ((tv_eps (HS.out.at (i := 1) rfl) HE.out).2.trans rfl)⟩ (fun hHeld => ?_)
      repeat (first | ((with_reducible refine gate_p ?_); refine rp rfl rfl ?_) | ((with_reducible refine gate_t ?_); refine rt rfl rfl hHeld ?_))
      refine run_e rfl (fun K hK => ?_)
      refine gc Try.func86 (implWhole 1 _) rfl rfl ?_
      rintro e_ w1 ⟨rfl, hb⟩
      refine ⟨_, rfl, ?_⟩
      replace HS := sB HS hb
      clear hb
      refine ge hK ⟨HS.out.c 0 2 (v := .slice (some ⟨v, 0, none⟩) N N) rfl rfl, ((tv_eps (HS.out.at (i := 1) rfl) HE.out).1.trans rfl), ((tv_eps (HS.out.at (i := 1) rfl) HE.out).2.trans rfl)⟩ (fun hHeld => ?_)
      clear hK K
      repeat (first | ((with_reducible refine gate_p ?_); refine rp rfl rfl ?_) | ((with_reducible refine gate_t ?_); refine rt rfl rfl hHeld ?_))
      refine run_done ?_
      clear hHeld
      go_wp2
      replace HS := sD HS
      refine ps (.p 0 (.p 1 (.p 2 (.p 4 (.p 5 (.p 6 (.p 11 (.t 3 (.t 7 (.d 8 (.p 9 (.p 10 .done)))))))))))) (fun w' => w'.cell? ⟨g, 0, none⟩ = some (.int .i64 (d : Int)) ∧ w'.cell? ⟨g, 1, none⟩ = some (.int .i64 (n : Int))) [8] ⟨HS.out.c 0 0 (v := .int .i64 (d : Int)) rfl rfl, HS.out.c 0 1 (v := .int .i64 (n : Int)) rfl rfl⟩ (fun hHeld => ?_)
      repeat (first | ((with_reducible refine gate_p ?_); refine rp rfl rfl ?_) | ((with_reducible refine gate_t ?_); refine rt rfl rfl hHeld ?_))
      refine run_d rfl (fun K hK => ?_)
      refine gc Try.func123 (HWA.out _) rfl rfl ?_
      rintro e_ w1 ⟨B1, b1, rfl, hs⟩
      refine ⟨_, rfl, ?_⟩
      replace HS := sN1 HS hs
      clear hs
      have hcap := HS.out.cap 0 rfl
      have hb1 : ¬ b1 = 1 := by omega
      clear hcap
      obtain ⟨ad1, ea_, h_⟩ := str_at (HS.out.reads 0 rfl) 0 (by omega)
      clear h_
      cases ea_
      refine gd hK ?_
      clear hK K
      repeat (first | ((with_reducible refine gate_p ?_); refine rp rfl rfl ?_) | ((with_reducible refine gate_t ?_); refine rt rfl rfl hHeld ?_))
      refine run_done ?_
      clear hHeld
      go_wp2
      go_loopw [41] (fun q w' => ∃ (i : Nat), i ≤ ws.length - 1 ∧ q = .int .i64 (i : Int) ∧ Aside0 (((words1 d n).take i).findSome? (fun v => rowP d n true l v (words1 d (n - v.size))) = none) ∧ Aside0 (Mod w w' No [rowS (some ad1) b1 ws, bx g 132 #[.int .i64 (d : Int), .int .i64 (n : Int), .slice (some ⟨v, 0, none⟩) N N, .bool false], tV v d n (co l), bx g_p 24 #[.int .i64 (d : Int), .int .i64 (n : Int), .slice A l.length c]])) (fun q _ => ws.length - 1 - (intOf q).toNat)
      case atStart => exact ⟨0, by omega, rfl, ⟨rfl⟩, HS⟩
      case round =>
        clear HS
        obtain ⟨i, hi, rfl, HI, HS⟩ := hrel
        by_cases hlt : i < ws.length - 1
        · obtain ⟨a, hv⟩ : ∃ s, ws[i + 1]? = some s := ⟨_, List.getElem?_eq_getElem (by omega)⟩
          have HE1 := Aside0.mk hv
          have hwa := HWI.out i a hv
          obtain ⟨ha1, ha2, ha3⟩ := HMEM.out n i a hwa
          have HA1 := Aside0.mk ha1
          have HNI := Aside0.mk (fun h => findSome_next (f := fun v => rowP d n true l v (words1 d (n - v.size))) HI.out hwa h)
          have HBI := Aside0.mk (fun r h => (show holdS d n true l = r by rw [HOUT.out, findSome_at (f := fun v => rowP d n true l v (words1 d (n - v.size))) (b := r) HI.out hwa h]; rfl))
          have hqw : ((n - a.size : Nat) : Int) = wrap64 ((n : Int) - (a.size : Int)) := by rw [wrap_id (by omega) (by omega)]; omega
          obtain ⟨us, hus⟩ : ∃ us, us = allW d (n - a.size) := ⟨_, rfl⟩
          have HUA := Aside0.mk (fun X => hqw ▸ (hus ▸ HAW.out (n - a.size) X (by omega)))
          have hul : us.length ≤ 10000 := by rw [hus]; exact HLE.out _ (by omega)
          clear hv hwa hqw ha1
          by_cases hz2 : n = a.size
          · have hu1 : us.length = 1 := by rw [hus, show n - a.size = 0 by omega]; exact HONE.out
            have h1u : (1 : Int) ≤ (us.length : Int) := by omega
            have hz0 : ¬ ((0 : Int) < ((us.length - 1 : Nat) : Int)) := by omega
            have HN := Aside0.mk (HNI.out (by show rowP d n true l a (words1 d (n - a.size)) = none; rw [show n - a.size = 0 by omega, words1_zero]; rfl))
            clear hz2 hu1 hus
            have f1_ := cell_next (HS.out.str 0 rfl HE1.out)
            go_wp2
            clear f1_
            replace HS := sD HS
            refine ps (.p 0 (.p 1 (.p 2 (.p 4 (.p 5 (.p 6 (.p 8 (.p 9 (.p 14 (.t 3 (.t 7 (.p 10 (.d 11 (.p 12 (.p 13 .done))))))))))))))) (fun w' => w'.cell? ⟨g, 0, none⟩ = some (.int .i64 (d : Int)) ∧ w'.cell? ⟨g, 1, none⟩ = some (.int .i64 (n : Int))) [11] ⟨HS.out.c 1 0 (v := .int .i64 (d : Int)) rfl rfl, HS.out.c 1 1 (v := .int .i64 (n : Int)) rfl rfl⟩ (fun hHeld => ?_)
            repeat (first | ((with_reducible refine gate_p ?_); refine rp rfl rfl ?_) | ((with_reducible refine gate_t ?_); refine rt rfl rfl hHeld ?_))
            refine run_d rfl (fun K hK => ?_)
            refine gc Try.func123 (HUA.out _) rfl rfl ?_
            rintro e_ w1 ⟨B2, b2, rfl, hs⟩
            refine ⟨_, rfl, ?_⟩
            replace HS := sN1 HS hs
            clear hs
            refine gd hK ?_
            clear hK K
            repeat (first | ((with_reducible refine gate_p ?_); refine rp rfl rfl ?_) | ((with_reducible refine gate_t ?_); refine rt rfl rfl hHeld ?_))
            refine run_done ?_
            clear hHeld
            go_wp2
            all_goals
              go_loopw [59] (fun q w' => q = .int .i64 0 ∧ Aside0 (Mod w w' No [rowS B2 b2 us, rowS (some ad1) b1 ws, bx g 132 #[.int .i64 (d : Int), .int .i64 (n : Int), .slice (some ⟨v, 0, none⟩) N N, .bool false], tV v d n (co l), bx g_p 24 #[.int .i64 (d : Int), .int .i64 (n : Int), .slice A l.length c]])) (fun _ _ => 0)
              case atStart => exact ⟨rfl, HS⟩
              case round =>
                clear HS
                obtain ⟨rfl, HS⟩ := hrel
                go_wp2
                replace HS : Aside0 (Mod _ _ _ [_, _, _, _]) := sX HS [1, 2, 3, 4]
                go_roundw
                case rel => exact ⟨i + 1, by omega, by go_num, HN, HS⟩
                case measure => simp [intOf]; omega
          · have hu2 : 2 ≤ us.length := by rw [hus]; exact HTWO.out _ (by omega)
            have h1u : (1 : Int) ≤ (us.length : Int) := by omega
            have HUI := Aside0.mk (fun j s (h : us[j + 1]? = some s) => words1_at (d := d) (m := n - a.size) (by rw [← hus]; exact h))
            have HUL := Aside0.mk (show (words1 d (n - a.size)).length = us.length - 1 by rw [hus]; exact HLEN.out _)
            have HUM := Aside0.mk (fun j s h => HMEM.out (n - a.size) j s h)
            obtain ⟨vs, hvs⟩ : ∃ vs, vs = words1 d (n - a.size) := ⟨_, rfl⟩
            have HNI2 := Aside0.mk (fun (h : rowP d n true l a vs = none) => HNI.out (by show rowP d n true l a (words1 d (n - a.size)) = none; rw [← hvs]; exact h))
            have HBI2 := Aside0.mk (fun r (h : rowP d n true l a vs = some r) => HBI.out r (by show rowP d n true l a (words1 d (n - a.size)) = some r; rw [← hvs]; exact h))
            rw [← hvs] at HUI HUL HUM
            clear hz2 hus hvs HNI HBI
            have f1_ := cell_next (HS.out.str 0 rfl HE1.out)
            go_wp2
            clear f1_
            replace HS := sD HS
            refine ps (.p 0 (.p 1 (.p 2 (.p 4 (.p 5 (.p 6 (.p 8 (.p 9 (.p 14 (.t 3 (.t 7 (.p 10 (.d 11 (.p 12 (.p 13 .done))))))))))))))) (fun w' => w'.cell? ⟨g, 0, none⟩ = some (.int .i64 (d : Int)) ∧ w'.cell? ⟨g, 1, none⟩ = some (.int .i64 (n : Int))) [11] ⟨HS.out.c 1 0 (v := .int .i64 (d : Int)) rfl rfl, HS.out.c 1 1 (v := .int .i64 (n : Int)) rfl rfl⟩ (fun hHeld => ?_)
            repeat (first | ((with_reducible refine gate_p ?_); refine rp rfl rfl ?_) | ((with_reducible refine gate_t ?_); refine rt rfl rfl hHeld ?_))
            refine run_d rfl (fun K hK => ?_)
            refine gc Try.func123 (HUA.out _) rfl rfl ?_
            rintro e_ w1 ⟨B2, b2, rfl, hs⟩
            refine ⟨_, rfl, ?_⟩
            replace HS := sN1 HS hs
            clear hs
            have hcap := HS.out.cap 0 rfl
            have hb2 : ¬ b2 = 1 := by omega
            clear hcap
            obtain ⟨ad2, ea_, h_⟩ := str_at (HS.out.reads 0 rfl) 0 (by omega)
            clear h_
            cases ea_
            refine gd hK ?_
            clear hK K
            repeat (first | ((with_reducible refine gate_p ?_); refine rp rfl rfl ?_) | ((with_reducible refine gate_t ?_); refine rt rfl rfl hHeld ?_))
            refine run_done ?_
            clear hHeld
            go_wp2
            go_loopw [59] (fun q w' => ∃ (j : Nat), j ≤ us.length - 1 ∧ q = .int .i64 (j : Int) ∧ Aside0 (rowP d n true l a (vs.take j) = none) ∧ Aside0 (Mod w w' No [rowS (some ad2) b2 us, rowS (some ad1) b1 ws, bx g 132 #[.int .i64 (d : Int), .int .i64 (n : Int), .slice (some ⟨v, 0, none⟩) N N, .bool false], tV v d n (co l), bx g_p 24 #[.int .i64 (d : Int), .int .i64 (n : Int), .slice A l.length c]])) (fun q _ => us.length - 1 - (intOf q).toNat)
            case atStart => exact ⟨0, by omega, rfl, ⟨rfl⟩, HS⟩
            case round =>
              clear HS
              obtain ⟨j, hj, rfl, HJ, HS⟩ := hrel
              by_cases hlt3 : j < us.length - 1
              · obtain ⟨b, hv⟩ : ∃ s, us[j + 1]? = some s := ⟨_, List.getElem?_eq_getElem (by omega)⟩
                have HE2 := Aside0.mk hv
                have hwb := HUI.out j b hv
                obtain ⟨hb1_, hb2_, hb3_⟩ := HUM.out j b hwb
                have hbn : b.size ≤ n := by omega
                have hab : a.size + b.size ≤ n := by omega
                have HNJ := Aside0.mk (fun h => rowP_next HJ.out hwb h)
                have HBJ := Aside0.mk (fun r h => HBI2.out r (rowP_some HJ.out hwb h))
                obtain ⟨m, hm⟩ : ∃ m, m = wantS true l a b := ⟨_, rfl⟩
                have HM := Aside0.mk (fun g v X k1 k2 => hm ▸ HWT.out g v a b X k1 k2 HA1.out ha2 hb1_ hbn)
                have HMQ := Aside0.mk hm.symm
                obtain ⟨o, ho⟩ : ∃ o, o = atS d l a b := ⟨_, rfl⟩
                have HO := Aside0.mk (fun g v X k1 k2 => ho ▸ HAS.out g v a b X k1 k2 hab)
                have HOQ := Aside0.mk ho.symm
                clear hv hwb hb1_ hm ho
                cases m with
                | none =>
                  have f1_ := cell_next (HS.out.str 0 rfl HE2.out)
                  go_wp2_with (first | (go_at_call 108; refine (HM.out g v _ (HS.out.at (i := 2) rfl) (HS.out.at (i := 3) rfl)).mono ?_; rintro e_ w1 ⟨x, y, hxy, rfl, hb⟩; replace HS := sB HS hb; clear hb f1_) | ((with_reducible refine gate_dst (N := 13) rfl ?_); refine bxL 35 #[(.int .i64 0), (.int .i64 0)] HS ?_; clear HS; intro g_wb w1 hg_wb HS) | ((with_reducible refine gate_store (t := 35) (p := 13) rfl ?_); refine stL HS 0 0 #[.int .i64 x, .int .i64 y] rfl rfl rfl rfl rfl ?_; clear HS; intro w1 HS))
                  go_ret2
                  rw [HBJ.out (false, 3) (by unfold verdict; rw [HMQ.out])]
                  exact ⟨rfl, HS.out.below⟩
                | some f =>
                  obtain ⟨fx, fy⟩ := f
                  cases o with
                  | none =>
                    have f1_ := cell_next (HS.out.str 0 rfl HE2.out)
                    go_wp2_with (first | (go_at_call 108; refine (HM.out g v _ (HS.out.at (i := 2) rfl) (HS.out.at (i := 3) rfl)).mono ?_; rintro e_ w1 ⟨x, y, hxy, rfl, hb⟩; replace HS := sB HS hb; clear hb f1_; obtain ⟨rfl, rfl⟩ := Prod.mk.inj (hxy _ rfl); clear hxy) | ((with_reducible refine gate_dst (N := 13) rfl ?_); refine bxL 35 #[(.int .i64 0), (.int .i64 0)] HS ?_; clear HS; intro g_wb w1 hg_wb HS) | ((with_reducible refine gate_store (t := 35) (p := 13) rfl ?_); refine stL HS 0 0 #[.int .i64 fx, .int .i64 fy] rfl rfl rfl rfl rfl ?_; clear HS; intro w1 HS) | (go_at_call 101; refine (HO.out g v _ (HS.out.at (i := 3) rfl) (HS.out.at (i := 4) rfl)).mono ?_; rintro e_ w1 ⟨x, y, hxy, rfl, hb⟩; replace HS := sB HS hb; clear hb) | ((with_reducible refine gate_dst (N := 15) rfl ?_); refine bxL 35 #[(.int .i64 0), (.int .i64 0)] HS ?_; clear HS; intro g_vb w1 hg_vb HS) | ((with_reducible refine gate_store (t := 35) (p := 15) rfl ?_); refine stL HS 0 0 #[.int .i64 x, .int .i64 y] rfl rfl rfl rfl rfl ?_; clear HS; intro w1 HS))
                    go_ret2
                    rw [HBJ.out (false, 3) (by unfold verdict; rw [HMQ.out, HOQ.out])]
                    exact ⟨rfl, HS.out.below⟩
                  | some q =>
                    obtain ⟨qx, qy⟩ := q
                    have HVE := Aside0.mk (fun (h : ((qx, qy) : Fr) = (fx, fy)) => (show verdict d true l a b = none by unfold verdict; rw [HMQ.out, HOQ.out]; exact if_pos h))
                    have HVN := Aside0.mk (fun (h : ¬ ((qx, qy) : Fr) = (fx, fy)) => (show verdict d true l a b = some (false, 0) by unfold verdict; rw [HMQ.out, HOQ.out]; exact if_neg h))
                    by_cases h1 : qx = fx
                    · by_cases h2 : qy = fy
                      · have HN := Aside0.mk (HNJ.out (HVE.out (by rw [h1, h2])))
                        have hq1 : (qx == fx) = true := by rw [h1]; exact beq_self_eq_true _
                        have hq2 : (qy == fy) = true := by rw [h2]; exact beq_self_eq_true _
                        clear h1 h2
                        have f1_ := cell_next (HS.out.str 0 rfl HE2.out)
                        go_wp2_with (first | (go_at_call 108; refine (HM.out g v _ (HS.out.at (i := 2) rfl) (HS.out.at (i := 3) rfl)).mono ?_; rintro e_ w1 ⟨x, y, hxy, rfl, hb⟩; replace HS := sB HS hb; clear hb f1_; obtain ⟨rfl, rfl⟩ := Prod.mk.inj (hxy _ rfl); clear hxy) | ((with_reducible refine gate_dst (N := 13) rfl ?_); refine bxL 35 #[(.int .i64 0), (.int .i64 0)] HS ?_; clear HS; intro g_wb w1 hg_wb HS) | ((with_reducible refine gate_store (t := 35) (p := 13) rfl ?_); refine stL HS 0 0 #[.int .i64 fx, .int .i64 fy] rfl rfl rfl rfl rfl ?_; clear HS; intro w1 HS) | (go_at_call 101; refine (HO.out g v _ (HS.out.at (i := 3) rfl) (HS.out.at (i := 4) rfl)).mono ?_; rintro e_ w1 ⟨x, y, hxy, rfl, hb⟩; replace HS := sB HS hb; clear hb; obtain ⟨rfl, rfl⟩ := Prod.mk.inj (hxy _ rfl); clear hxy) | ((with_reducible refine gate_dst (N := 15) rfl ?_); refine bxL 35 #[(.int .i64 0), (.int .i64 0)] HS ?_; clear HS; intro g_vb w1 hg_vb HS) | ((with_reducible refine gate_store (t := 35) (p := 15) rfl ?_); refine stL HS 0 0 #[.int .i64 qx, .int .i64 qy] rfl rfl rfl rfl rfl ?_; clear HS; intro w1 HS; have f1_ := HS.out.c 0 0 (v := .int .i64 qx) rfl rfl; have f2_ := HS.out.c 0 1 (v := .int .i64 qy) rfl rfl; have f3_ := HS.out.c 1 0 (v := .int .i64 fx) rfl rfl; have f4_ := HS.out.c 1 1 (v := .int .i64 fy) rfl rfl))
                        replace HS : Aside0 (Mod _ _ _ [_, _, _, _, _]) := sX HS [2, 3, 4, 5, 6]
                        go_roundw
                        case rel => exact ⟨j + 1, by omega, by go_num, HN, HS⟩
                        case measure => simp [intOf]; omega
                      · have HN := Aside0.mk (HBJ.out (false, 0) (HVN.out (fun h => h2 (Prod.mk.inj h).2)))
                        have hq1 : (qx == fx) = true := by rw [h1]; exact beq_self_eq_true _
                        have hq2 : (qy == fy) = false := by simpa using h2
                        clear h1 h2
                        have f1_ := cell_next (HS.out.str 0 rfl HE2.out)
                        go_wp2_with (first | (go_at_call 108; refine (HM.out g v _ (HS.out.at (i := 2) rfl) (HS.out.at (i := 3) rfl)).mono ?_; rintro e_ w1 ⟨x, y, hxy, rfl, hb⟩; replace HS := sB HS hb; clear hb f1_; obtain ⟨rfl, rfl⟩ := Prod.mk.inj (hxy _ rfl); clear hxy) | ((with_reducible refine gate_dst (N := 13) rfl ?_); refine bxL 35 #[(.int .i64 0), (.int .i64 0)] HS ?_; clear HS; intro g_wb w1 hg_wb HS) | ((with_reducible refine gate_store (t := 35) (p := 13) rfl ?_); refine stL HS 0 0 #[.int .i64 fx, .int .i64 fy] rfl rfl rfl rfl rfl ?_; clear HS; intro w1 HS) | (go_at_call 101; refine (HO.out g v _ (HS.out.at (i := 3) rfl) (HS.out.at (i := 4) rfl)).mono ?_; rintro e_ w1 ⟨x, y, hxy, rfl, hb⟩; replace HS := sB HS hb; clear hb; obtain ⟨rfl, rfl⟩ := Prod.mk.inj (hxy _ rfl); clear hxy) | ((with_reducible refine gate_dst (N := 15) rfl ?_); refine bxL 35 #[(.int .i64 0), (.int .i64 0)] HS ?_; clear HS; intro g_vb w1 hg_vb HS) | ((with_reducible refine gate_store (t := 35) (p := 15) rfl ?_); refine stL HS 0 0 #[.int .i64 qx, .int .i64 qy] rfl rfl rfl rfl rfl ?_; clear HS; intro w1 HS; have f1_ := HS.out.c 0 0 (v := .int .i64 qx) rfl rfl; have f2_ := HS.out.c 0 1 (v := .int .i64 qy) rfl rfl; have f3_ := HS.out.c 1 0 (v := .int .i64 fx) rfl rfl; have f4_ := HS.out.c 1 1 (v := .int .i64 fy) rfl rfl))
                        go_ret2
                        rw [HN.out]
                        exact ⟨rfl, HS.out.below⟩
                    · have HN := Aside0.mk (HBJ.out (false, 0) (HVN.out (fun h => h1 (Prod.mk.inj h).1)))
                      have hq1 : (qx == fx) = false := by simpa using h1
                      clear h1
                      have f1_ := cell_next (HS.out.str 0 rfl HE2.out)
                      go_wp2_with (first | (go_at_call 108; refine (HM.out g v _ (HS.out.at (i := 2) rfl) (HS.out.at (i := 3) rfl)).mono ?_; rintro e_ w1 ⟨x, y, hxy, rfl, hb⟩; replace HS := sB HS hb; clear hb f1_; obtain ⟨rfl, rfl⟩ := Prod.mk.inj (hxy _ rfl); clear hxy) | ((with_reducible refine gate_dst (N := 13) rfl ?_); refine bxL 35 #[(.int .i64 0), (.int .i64 0)] HS ?_; clear HS; intro g_wb w1 hg_wb HS) | ((with_reducible refine gate_store (t := 35) (p := 13) rfl ?_); refine stL HS 0 0 #[.int .i64 fx, .int .i64 fy] rfl rfl rfl rfl rfl ?_; clear HS; intro w1 HS) | (go_at_call 101; refine (HO.out g v _ (HS.out.at (i := 3) rfl) (HS.out.at (i := 4) rfl)).mono ?_; rintro e_ w1 ⟨x, y, hxy, rfl, hb⟩; replace HS := sB HS hb; clear hb; obtain ⟨rfl, rfl⟩ := Prod.mk.inj (hxy _ rfl); clear hxy) | ((with_reducible refine gate_dst (N := 15) rfl ?_); refine bxL 35 #[(.int .i64 0), (.int .i64 0)] HS ?_; clear HS; intro g_vb w1 hg_vb HS) | ((with_reducible refine gate_store (t := 35) (p := 15) rfl ?_); refine stL HS 0 0 #[.int .i64 qx, .int .i64 qy] rfl rfl rfl rfl rfl ?_; clear HS; intro w1 HS; have f1_ := HS.out.c 0 0 (v := .int .i64 qx) rfl rfl; have f2_ := HS.out.c 0 1 (v := .int .i64 qy) rfl rfl; have f3_ := HS.out.c 1 0 (v := .int .i64 fx) rfl rfl; have f4_ := HS.out.c 1 1 (v := .int .i64 fy) rfl rfl))
                      go_ret2
                      rw [HN.out]
                      exact ⟨rfl, HS.out.below⟩
              · obtain rfl : j = us.length - 1 := by omega
                have HN := Aside0.mk (HNI2.out (by have h := HJ.out; rw [← HUL.out, List.take_length] at h; exact h))
                go_wp2
                replace HS : Aside0 (Mod _ _ _ [_, _, _, _]) := sX HS [1, 2, 3, 4]
                go_roundw
                case rel => exact ⟨i + 1, by omega, by go_num, HN, HS⟩
                case measure => simp [intOf]; omega
        · obtain rfl : i = ws.length - 1 := by omega
          have HE2 := Aside0.mk (show holdS d n true l = (true, 0) by rw [HOUT.out]; have h := HI.out; rw [← HWN.out, List.take_length] at h; rw [h]; rfl)
          go_wp2
          go_ret2
          rw [HE2.out]
          exact ⟨rfl, HS.out.below⟩
    · rw [if_neg hz]
      by_cases h1 : e.1 = 1
      · obtain ⟨e1, y⟩ := e
        have h1' : e1 = 1 := h1
        subst h1'
        have hy : ¬ y = 1 := fun h => hz (Prod.ext rfl h)
        clear hz h1
        go_enter Try.func105, Try.ntmps105
        go_wp2_with (first | ((with_reducible refine gate_dst (N := 3) rfl ?_); refine bxL 24 #[.int .i64 (d : Int), .int .i64 (n : Int), .slice A l.length c] HS ?_; clear HS; intro g_p w1 hg_p HS; have f1_ := HS.out.c 0 0 (v := .int .i64 (d : Int)) rfl rfl; have f2_ := HS.out.c 0 1 (v := .int .i64 (n : Int)) rfl rfl; have f3_ := HS.out.c 0 2 (v := .slice A l.length c) rfl rfl) | (go_at_call 98; refine (implIs d n A c l _ (HS.out.oldC HR.out) hc HB.out).mono ?_; rintro e_ w1 ⟨rfl, hb⟩; replace HS := sB HS hb; clear hb f1_ f2_ f3_; have f1_ := HS.out.c 0 0 (v := .int .i64 (d : Int)) rfl rfl; have f2_ := HS.out.c 0 1 (v := .int .i64 (n : Int)) rfl rfl; have f3_ := HS.out.c 0 2 (v := .slice A l.length c) rfl rfl) | (go_at_call 100; refine (HOP.out _ (HS.out.oldC HR.out)).mono ?_; rintro e_ w1 ⟨g, v, rfl, hs⟩; replace HS := sN2 HS hs; clear hs f1_ f2_ f3_))
        replace HS := sD HS
        refine ps (.p 0 (.p 1 (.p 2 (.p 6 (.t 3 (.p 4 (.t 5 (.e 7 (.p 8 .done))))))))) (fun w' => w'.cell? ⟨g, 2, none⟩ = some (.slice (some ⟨v, 0, none⟩) N N) ∧ w'.cell? ⟨v, 0, none⟩ = some (.int .i64 1) ∧ w'.cell? ⟨v, 1, none⟩ = some (.int .i64 y)) [] ⟨HS.out.c 0 2 (v := .slice (some ⟨v, 0, none⟩) N N) rfl rfl, ((tv_eps (HS.out.at (i := 1) rfl) HE.out).1.trans rfl), ((tv_eps (HS.out.at (i := 1) rfl) HE.out).2.trans rfl)⟩ (fun hHeld => ?_)
        repeat (first | ((with_reducible refine gate_p ?_); refine rp rfl rfl ?_) | ((with_reducible refine gate_t ?_); refine rt rfl rfl hHeld ?_))
        refine run_e rfl (fun K hK => ?_)
        refine gc Try.func86 (implWhole 1 _) rfl rfl ?_
        rintro e_ w1 ⟨rfl, hb⟩
        refine ⟨_, rfl, ?_⟩
        replace HS := sB HS hb
        clear hb
        refine ge hK ⟨HS.out.c 0 2 (v := .slice (some ⟨v, 0, none⟩) N N) rfl rfl, ((tv_eps (HS.out.at (i := 1) rfl) HE.out).1.trans rfl), ((tv_eps (HS.out.at (i := 1) rfl) HE.out).2.trans rfl)⟩ (fun hHeld => ?_)
        clear hK K
        repeat (first | ((with_reducible refine gate_p ?_); refine rp rfl rfl ?_) | ((with_reducible refine gate_t ?_); refine rt rfl rfl hHeld ?_))
        refine run_done ?_
        clear hHeld
        go_wp2
        go_ret2
        exact ⟨rfl, HS.out.below⟩
      · clear hz
        go_enter Try.func105, Try.ntmps105
        go_wp2_with (first | ((with_reducible refine gate_dst (N := 3) rfl ?_); refine bxL 24 #[.int .i64 (d : Int), .int .i64 (n : Int), .slice A l.length c] HS ?_; clear HS; intro g_p w1 hg_p HS; have f1_ := HS.out.c 0 0 (v := .int .i64 (d : Int)) rfl rfl; have f2_ := HS.out.c 0 1 (v := .int .i64 (n : Int)) rfl rfl; have f3_ := HS.out.c 0 2 (v := .slice A l.length c) rfl rfl) | (go_at_call 98; refine (implIs d n A c l _ (HS.out.oldC HR.out) hc HB.out).mono ?_; rintro e_ w1 ⟨rfl, hb⟩; replace HS := sB HS hb; clear hb f1_ f2_ f3_; have f1_ := HS.out.c 0 0 (v := .int .i64 (d : Int)) rfl rfl; have f2_ := HS.out.c 0 1 (v := .int .i64 (n : Int)) rfl rfl; have f3_ := HS.out.c 0 2 (v := .slice A l.length c) rfl rfl) | (go_at_call 100; refine (HOP.out _ (HS.out.oldC HR.out)).mono ?_; rintro e_ w1 ⟨g, v, rfl, hs⟩; replace HS := sN2 HS hs; clear hs f1_ f2_ f3_))
        replace HS := sD HS
        refine ps (.p 0 (.p 1 (.p 2 (.p 6 (.t 3 (.p 4 (.t 5 (.e 7 (.p 8 .done))))))))) (fun w' => w'.cell? ⟨g, 2, none⟩ = some (.slice (some ⟨v, 0, none⟩) N N) ∧ w'.cell? ⟨v, 0, none⟩ = some (.int .i64 e.1) ∧ w'.cell? ⟨v, 1, none⟩ = some (.int .i64 e.2)) [] ⟨HS.out.c 0 2 (v := .slice (some ⟨v, 0, none⟩) N N) rfl rfl, ((tv_eps (HS.out.at (i := 1) rfl) HE.out).1.trans rfl), ((tv_eps (HS.out.at (i := 1) rfl) HE.out).2.trans rfl)⟩ (fun hHeld => ?_)
        repeat (first | ((with_reducible refine gate_p ?_); refine rp rfl rfl ?_) | ((with_reducible refine gate_t ?_); refine rt rfl rfl hHeld ?_))
        refine run_e rfl (fun K hK => ?_)
        refine gc Try.func86 (implWhole 1 _) rfl rfl ?_
        rintro e_ w1 ⟨rfl, hb⟩
        refine ⟨_, rfl, ?_⟩
        replace HS := sB HS hb
        clear hb
        refine ge hK ⟨HS.out.c 0 2 (v := .slice (some ⟨v, 0, none⟩) N N) rfl rfl, ((tv_eps (HS.out.at (i := 1) rfl) HE.out).1.trans rfl), ((tv_eps (HS.out.at (i := 1) rfl) HE.out).2.trans rfl)⟩ (fun hHeld => ?_)
        clear hK K
        repeat (first | ((with_reducible refine gate_p ?_); refine rp rfl rfl ?_) | ((with_reducible refine gate_t ?_); refine rt rfl rfl hHeld ?_))
        refine run_done ?_
        clear hHeld
        go_wp2
        go_ret2
        exact ⟨rfl, HS.out.below⟩
set_option maxHeartbeats 8000000 in
theorem implIsGroupLike (d n : Int) (A : Option Addr) (c : Nat) (l : Ts) (w : World) (hr : KT.C w A l.length l) (hc : l.length ≤ c) (hb : bnd l = true) :
    Calls Try.prog 27 #[.agg #[.int .i64 d, .int .i64 n, .slice A l.length c]] w (RetB w (holdR true d n l)) := by
  have HR := Aside0.mk hr
  have HP := Aside0.mk (fun W k => implHoldsT d n A c l W k hc hb)
  obtain ⟨r, hr2⟩ : ∃ r, r = holdR true d n l := ⟨_, rfl⟩
  rw [← hr2] at HP
  rw [← hr2]
  have HS := Aside0.mk (Sep.refl w)
  clear hr hb hr2
  go_enter Try.func27, Try.ntmps27
  go_wp2_with (first | ((with_reducible refine gate_dst (N := 1) rfl ?_); refine bxL 24 #[.int .i64 d, .int .i64 n, .slice A l.length c] HS ?_; clear HS; intro g_p w1 hg_p HS; have f1_ := HS.out.c 0 0 (v := .int .i64 d) rfl rfl; have f2_ := HS.out.c 0 1 (v := .int .i64 n) rfl rfl; have f3_ := HS.out.c 0 2 (v := .slice A l.length c) rfl rfl) | (go_at_call 105; refine (HP.out _ (HS.out.oldC HR.out)).mono ?_; rintro e_ w1 ⟨rfl, hb⟩; replace HS := sB HS hb; clear hb f1_ f2_ f3_))
  go_ret2
  exact ⟨rfl, HS.out.below⟩
set_option maxHeartbeats 8000000 in
theorem specIsGroupLike (d n : Int) (A : Option Addr) (c : Nat) (l : Ts) (w : World) (hr : KT.C w A l.length l) (hc : l.length ≤ c) (hb : bnd l = true) :
    Calls Try.prog 26 #[.agg #[.int .i64 d, .int .i64 n, .slice A l.length c]] w (RetB w (holdR true d n l)) := by
  have HR := Aside0.mk hr
  have HB := Aside0.mk hb
  have hll := (bnd_iff.1 hb).1
  have HS := Aside0.mk (Sep.refl w)
  clear hr hb
  unfold holdR
  cases h : isS d n l with
  | false =>
    go_enter Try.func26, Try.ntmps26
    go_wp2_with (first | ((with_reducible refine gate_dst (N := 1) rfl ?_); refine bxL 24 #[.int .i64 d, .int .i64 n, .slice A l.length c] HS ?_; clear HS; intro g_p w1 hg_p HS; have f1_ := HS.out.c 0 0 (v := .int .i64 d) rfl rfl; have f2_ := HS.out.c 0 1 (v := .int .i64 n) rfl rfl; have f3_ := HS.out.c 0 2 (v := .slice A l.length c) rfl rfl) | (go_at_call 94; refine (specIs d n A c l _ (HS.out.oldC HR.out) hc HB.out).mono ?_; rintro e_ w1 ⟨rfl, hb⟩; replace HS := sB HS hb; clear hb f1_ f2_ f3_))
    go_ret2
    exact ⟨rfl, HS.out.below⟩
  | true =>
    have HX := Aside0.mk (isS_t h)
    have hlev := isS_l h
    obtain ⟨d, n, rfl, rfl, hd1, hd3, hn1, hn5⟩ := lev_nat hlev
    rw [Int.toNat_natCast, Int.toNat_natCast] at HX ⊢
    rw [if_pos rfl]
    have HV := Aside0.mk (fun W k => specValue d n A c l eps W k hc hll)
    have hq := holdQ_eq (d := d) (n := n) (by omega) true l
    have HP := Aside0.mk (fun W (k : KT.C W A l.length l) => hq ▸ specHoldsT d n hlev A c l W k hc HX.out)
    clear hq
    obtain ⟨r, hr2⟩ : ∃ r, r = holdS d n true l := ⟨_, rfl⟩
    rw [← hr2] at HP
    rw [← hr2]
    have hfe := co_fr HX.out eps
    obtain ⟨e, he⟩ : ∃ e : Fr, e = co l eps := ⟨_, rfl⟩
    rw [← he] at HV hfe
    rw [← he, show (if (true : Bool) = true then (1 : Int) else 0) = 1 from rfl]
    have HF := Aside0.mk hfe
    clear he hr2 hlev hfe
    by_cases hz : e = (1, 1)
    · subst hz
      rw [if_pos rfl]
      go_enter Try.func26, Try.ntmps26
      go_wp2_with (first | ((with_reducible refine gate_dst (N := 1) rfl ?_); refine bxL 24 #[.int .i64 (d : Int), .int .i64 (n : Int), .slice A l.length c] HS ?_; clear HS; intro g_p w1 hg_p HS; have f1_ := HS.out.c 0 0 (v := .int .i64 (d : Int)) rfl rfl; have f2_ := HS.out.c 0 1 (v := .int .i64 (n : Int)) rfl rfl; have f3_ := HS.out.c 0 2 (v := .slice A l.length c) rfl rfl) | (go_at_call 94; refine (specIs d n A c l _ (HS.out.oldC HR.out) hc HB.out).mono ?_; rintro e_ w1 ⟨rfl, hb⟩; replace HS := sB HS hb; clear hb f1_ f2_ f3_; have f1_ := HS.out.c 0 0 (v := .int .i64 (d : Int)) rfl rfl; have f2_ := HS.out.c 0 1 (v := .int .i64 (n : Int)) rfl rfl; have f3_ := HS.out.c 0 2 (v := .slice A l.length c) rfl rfl) | (go_at_call 103; refine (HV.out _ (HS.out.oldC HR.out)).mono ?_; rintro e_ w1 ⟨rfl, hb⟩; replace HS := sB HS hb; clear hb f1_ f2_ f3_; have f1_ := HS.out.c 0 0 (v := .int .i64 (d : Int)) rfl rfl; have f2_ := HS.out.c 0 1 (v := .int .i64 (n : Int)) rfl rfl; have f3_ := HS.out.c 0 2 (v := .slice A l.length c) rfl rfl) | (go_at_call 104; refine (HP.out _ (HS.out.oldC HR.out)).mono ?_; rintro e_ w1 ⟨rfl, hb⟩; replace HS := sB HS hb; clear hb f1_ f2_ f3_))
      go_ret2
      exact ⟨rfl, HS.out.below⟩
    · rw [if_neg hz]
      by_cases h1 : e.1 = 1
      · obtain ⟨e1, y⟩ := e
        have h1' : e1 = 1 := h1
        subst h1'
        have hy : ¬ y = 1 := fun h => hz (Prod.ext rfl h)
        clear hz h1
        go_enter Try.func26, Try.ntmps26
        go_wp2_with (first | ((with_reducible refine gate_dst (N := 1) rfl ?_); refine bxL 24 #[.int .i64 (d : Int), .int .i64 (n : Int), .slice A l.length c] HS ?_; clear HS; intro g_p w1 hg_p HS; have f1_ := HS.out.c 0 0 (v := .int .i64 (d : Int)) rfl rfl; have f2_ := HS.out.c 0 1 (v := .int .i64 (n : Int)) rfl rfl; have f3_ := HS.out.c 0 2 (v := .slice A l.length c) rfl rfl) | (go_at_call 94; refine (specIs d n A c l _ (HS.out.oldC HR.out) hc HB.out).mono ?_; rintro e_ w1 ⟨rfl, hb⟩; replace HS := sB HS hb; clear hb f1_ f2_ f3_; have f1_ := HS.out.c 0 0 (v := .int .i64 (d : Int)) rfl rfl; have f2_ := HS.out.c 0 1 (v := .int .i64 (n : Int)) rfl rfl; have f3_ := HS.out.c 0 2 (v := .slice A l.length c) rfl rfl) | (go_at_call 103; refine (HV.out _ (HS.out.oldC HR.out)).mono ?_; rintro e_ w1 ⟨rfl, hb⟩; replace HS := sB HS hb; clear hb f1_ f2_ f3_))
        go_ret2
        exact ⟨rfl, HS.out.below⟩
      · clear hz
        go_enter Try.func26, Try.ntmps26
        go_wp2_with (first | ((with_reducible refine gate_dst (N := 1) rfl ?_); refine bxL 24 #[.int .i64 (d : Int), .int .i64 (n : Int), .slice A l.length c] HS ?_; clear HS; intro g_p w1 hg_p HS; have f1_ := HS.out.c 0 0 (v := .int .i64 (d : Int)) rfl rfl; have f2_ := HS.out.c 0 1 (v := .int .i64 (n : Int)) rfl rfl; have f3_ := HS.out.c 0 2 (v := .slice A l.length c) rfl rfl) | (go_at_call 94; refine (specIs d n A c l _ (HS.out.oldC HR.out) hc HB.out).mono ?_; rintro e_ w1 ⟨rfl, hb⟩; replace HS := sB HS hb; clear hb f1_ f2_ f3_; have f1_ := HS.out.c 0 0 (v := .int .i64 (d : Int)) rfl rfl; have f2_ := HS.out.c 0 1 (v := .int .i64 (n : Int)) rfl rfl; have f3_ := HS.out.c 0 2 (v := .slice A l.length c) rfl rfl) | (go_at_call 103; refine (HV.out _ (HS.out.oldC HR.out)).mono ?_; rintro e_ w1 ⟨rfl, hb⟩; replace HS := sB HS hb; clear hb f1_ f2_ f3_))
        go_ret2
        exact ⟨rfl, HS.out.below⟩
end Go.Proofs.Ytaheikponfmdiaa.H


