/- Values at all shuffles: what the reference's l03Holds returns. Conditions: those of series. -/
import Derived.Test.YtaheikponfmdiaaKHoldL
import Derived.Test.YtaheikponfmdiaaKAtQ
namespace Go.Proofs.Ytaheikponfmdiaa.H
open Go.RowKit Go.Proofs.YtaheikponfmdiaaW.PrintWords Go.Proofs.YtaheikponfmdiaaW.PrintLast Go.Proofs.YtaheikponfmdiaaW.PrintMore Go.Proofs.Ytaheikponfmdiaa.M
attribute [local go_sem] max2_int min2_int max_two min_two max_three min_three max_four min_four
set_option linter.unusedVariables false
set_option linter.unusedSimpArgs false
set_option maxRecDepth 100000
set_option maxHeartbeats 16000000 in
theorem specHoldsT (d n : Nat) (hl : lev d n = true) (A : Option Addr) (c : Nat) (l : Ts) (W : World) (hr : KT.C W A l.length l) (hc : l.length ≤ c) (hx : isTs d n l = true) :
    Calls Try.prog 104 #[.agg #[.int .i64 (d : Int), .int .i64 (n : Int), .slice A l.length c], .bool true] W fun e w' => e = .returned (.tuple #[.bool (holdQ d n true l).1, .int .i64 (holdQ d n true l).2]) ∧ Below W.heap.size W w' := by
  obtain ⟨hd1, hd3, hn1, hn5⟩ := lev_bd hl
  have hd9 : d ≤ 9 := by omega
  have HR := Aside0.mk hr
  have hll := (bnd_iff.1 (isTs_bnd hd3 hn5 hx)).1
  have HV := Aside0.mk (fun s X k => specValue d n A c l s X k hc hll)
  have HAT := Aside0.mk (fun v w X k (h : v.size + w.size ≤ 5) => specAtQ d n hd3 hn5 A c l v w X k hc hx h)
  have HG := Aside0.mk (fun u => fr_small (co_fr hx u))
  have HWD := Aside0.mk (fun k X (h : k ≤ 5) => specWordsS d k X hd3 (by omega))
  have HWL := Aside0.mk (fun k (h : k ≤ 5) => wordsN_le (d := d) (n := k) hd3 (by omega))
  have HW1 := Aside0.mk (words1_succ d)
  have HWZ := Aside0.mk (words1_zero d)
  have HY1 := Aside0.mk (fun m (h : m ≤ 5) => words1_le (d := d) (m := m) hd3 h)
  have HMEM := Aside0.mk (fun (i : Nat) (s : ByteArray) (h : (words1 d (n - 1))[i]? = some s) => words1_mem hd9 (List.mem_of_getElem? h))
  have HOUT := Aside0.mk (show holdQ d n true l = ((words1 d (n - 1)).findSome? fun v => rowQ d n true l v (words1 d (n - 1))).getD (true, 0) from rfl)
  have HS := Aside0.mk (Sep.refl W)
  clear hr hx hl
  go_enter Try.func104, Try.ntmps104
  go_wp2_with (first | ((with_reducible refine gate_dst (N := 2) rfl ?_); refine bxL 24 #[.int .i64 (d : Int), .int .i64 (n : Int), .slice A l.length c] HS ?_; clear HS; intro g_x w1 hg_x HS) | ((with_reducible refine gate_dst (N := 15) rfl ?_); refine wpList_stp (fun K hK => ?_); refine stp_lit (Kd.string) rfl 9 (by rfl) HS (xs := ([] : List ByteArray)) (inner := []) (by first | (go_simp; done) | (go_simp; rfl)) (fun W base ok => Reps.none _ _) (by simp) ?_; clear HS; intro A_o c_o w1 HS; refine hK _ _ ?_; clear hK K))
  go_loopw [6, 7] (fun x v w' => ∃ (k : Nat) (B : Option Addr) (b : Nat) (y : List ByteArray), 1 ≤ k ∧ k ≤ n ∧ v = .int .i64 (k : Int) ∧ x = .slice B y.length b ∧ Aside0 (y = words1 d (k - 1)) ∧ Aside0 (Mod W w' No [rowS B b y, bx g_x 24 #[.int .i64 (d : Int), .int .i64 (n : Int), .slice A l.length c]])) (fun _ v _ => n - (intOf v).toNat)
  case atStart => exact ⟨1, A_o, c_o, [], by omega, by omega, rfl, rfl, ⟨HWZ.out.symm⟩, HS⟩
  case round =>
    clear HS
    obtain ⟨k, B, b, y, hk1, hk, rfl, rfl, HY, HS⟩ := hrel
    by_cases hlt : k < n
    · have hyl : y.length ≤ 10000 := by rw [HY.out]; exact HY1.out _ (by omega)
      have hwl : (wordsN d k).length ≤ 6561 := HWL.out k (by omega)
      have f1_ := HS.out.c 1 1 (v := .int .i64 (n : Int)) rfl rfl
      have f2_ := HS.out.c 1 0 (v := .int .i64 (d : Int)) rfl rfl
      go_wp2_with (first | (go_at_call 128; refine (HWD.out k _ (by omega)).mono ?_; rintro e_ w1 ⟨B1, b1, rfl, hs⟩; replace HS := sN1 HS hs; clear hs f1_ f2_) | ((with_reducible refine gate_builtin (b := .append) (xs := #[.tmp 22, .tmp 26]) rfl ?_); at_builtin; refine wpList_stp (fun K hK => ?_); refine stp_rows (Kd.string) rfl (fun _ _ _ _ _ h => h) (by rfl) HS 1 rfl (.tmp 22) (.tmp 26) 57 _ 16 rfl Try.underlying57 infoString (by kernel_rfl) (wordsN d k) rfl rfl (HS.out.reads 0 rfl) (by omega) ?_; clear HS; intro A_y' c_y' y' w1 Ny' HS; simp only [List.set_cons_zero, List.set_cons_succ] at HS; refine hK _ _ ?_; clear hK K))
      replace HS : Aside0 (Mod _ _ _ [_, _]) := sX HS [1, 2]
      go_roundw
      case rel => exact ⟨k + 1, A_y', c_y', y', by omega, by omega, by go_num, rfl, ⟨by rw [Ny'.out, HY.out, show k + 1 - 1 = (k - 1) + 1 by omega, HW1.out, show k - 1 + 1 = k by omega]⟩, HS⟩
      case measure => simp [intOf]; omega
    · obtain rfl : n = k := by omega
      have hyl : y.length ≤ 10000 := by rw [HY.out]; exact HY1.out _ (by omega)
      rw [← HY.out] at HMEM HOUT
      clear HY
      have f1_ := HS.out.c 1 1 (v := .int .i64 (n : Int)) rfl rfl
      go_wp2
      go_loopw [8] (fun v w' => ∃ (i : Nat), i ≤ y.length ∧ v = .int .i64 (i : Int) ∧ Aside0 (((y.take i).findSome? fun v => rowQ d n true l v y) = none) ∧ Aside0 (Mod W w' No [rowS B b y, bx g_x 24 #[.int .i64 (d : Int), .int .i64 (n : Int), .slice A l.length c]])) (fun v _ => y.length - (intOf v).toNat)
      case atStart => exact ⟨0, by omega, rfl, ⟨rfl⟩, HS⟩
      case round =>
        clear HS
        obtain ⟨i, hi, rfl, HI, HS⟩ := hrel
        by_cases hlt2 : i < y.length
        · obtain ⟨ad, ea, h_⟩ := str_at (HS.out.reads 0 rfl) i hlt2
          clear h_
          cases ea
          obtain ⟨v, hv⟩ : ∃ s, y[i]? = some s := ⟨_, List.getElem?_eq_getElem hlt2⟩
          have HE1 := Aside0.mk hv
          obtain ⟨_, hv1, hv2⟩ := HMEM.out i v hv
          have HNI := Aside0.mk (fun h => findSome_next (f := fun v => rowQ d n true l v y) HI.out hv h)
          have HBI := Aside0.mk (fun r h => findSome_at (f := fun v => rowQ d n true l v y) (b := r) HI.out hv h)
          clear hv
          go_wp2
          go_loopw [9] (fun z w' => ∃ (j : Nat), j ≤ y.length ∧ z = .int .i64 (j : Int) ∧ Aside0 (rowQ d n true l v (y.take j) = none) ∧ Aside0 (Mod W w' No [rowS (some ad) b y, bx g_x 24 #[.int .i64 (d : Int), .int .i64 (n : Int), .slice A l.length c]])) (fun z _ => y.length - (intOf z).toNat)
          case atStart => exact ⟨0, by omega, rfl, ⟨rfl⟩, HS⟩
          case round =>
            clear HS
            obtain ⟨j, hj, rfl, HJ, HS⟩ := hrel
            by_cases hlt3 : j < y.length
            · obtain ⟨u, hu⟩ : ∃ s, y[j]? = some s := ⟨_, List.getElem?_eq_getElem hlt3⟩
              have HE2 := Aside0.mk hu
              obtain ⟨_, hu1, hu2⟩ := HMEM.out j u hu
              have HNJ := Aside0.mk (fun h => rowQ_next HJ.out hu h)
              have HBJ := Aside0.mk (fun r (h : verdict d true l v u = some r) (h2 : v.size + u.size ≤ n) => (show holdQ d n true l = r by rw [HOUT.out, HBI.out r (rowQ_some HJ.out hu h2 h)]; rfl))
              clear hu
              have HZW := Aside0.mk (wrap_id (x := (v.size : Int) + (u.size : Int)) (by omega) (by omega))
              by_cases hlong : v.size + u.size ≤ n
              · have hlb : ¬ ((n : Int) < (v.size : Int) + (u.size : Int)) := by omega
                have HB2 := Aside0.mk (fun r h => HBJ.out r h hlong)
                have HNX := Aside0.mk (fun (h : verdict d true l v u = none) => HNJ.out (fun _ => h))
                clear HBJ HNJ
                have HP := Aside0.mk (fun X k => HAT.out v u X k (by omega))
                obtain ⟨o, ho⟩ : ∃ o, o = atS d l v u := ⟨_, rfl⟩
                rw [← ho] at HP
                have HO := Aside0.mk ho
                clear ho
                obtain ⟨m, hm⟩ : ∃ m, m = mul (co l v) (co l u) := ⟨_, rfl⟩
                have HM := Aside0.mk (fun X => hm ▸ specTimes (co l v).1 (co l v).2 (co l u).1 (co l u).2 X (HG.out v) (HG.out u))
                have HW := Aside0.mk (show wantS true l v u = m from hm.symm)
                clear hm
                cases m with
                | none =>
                  go_wp2
                  replace HS := sD HS
                  refine ps (.p 0 (.p 1 (.p 2 (.p 5 (.p 6 (.p 7 (.p 11 (.t 3 (.p 4 (.t 8 (.p 9 (.p 10 (.t 12 (.p 13 .done)))))))))))))) (fun w' => w'.cell? (ad.add i) = some (.string v) ∧ w'.cell? (ad.add j) = some (.string u) ∧ w'.cell? ⟨g_x, 1, none⟩ = some (.int .i64 (n : Int))) [] ⟨HS.out.str 0 rfl HE1.out, HS.out.str 0 rfl HE2.out, HS.out.c 1 1 (v := .int .i64 (n : Int)) rfl rfl⟩ (fun hHeld => ?_)
                  repeat (first | ((with_reducible refine gate_p ?_); refine rp rfl rfl ?_) | ((with_reducible refine gate_t ?_); refine rt rfl rfl hHeld ?_))
                  refine run_done ?_
                  clear hHeld
                  simp only [i64_w, HZW.out]
                  go_wp2_with (first | ((with_reducible refine gate_dst (N := 10) rfl ?_); refine bxL 35 #[(.int .i64 0), (.int .i64 0)] HS ?_; clear HS; intro g_wb w1 hg_wb HS) | ((with_reducible refine gate_store (t := 35) (p := 10) rfl ?_); refine stL HS 0 0 #[(.int .i64 0), (.int .i64 1)] rfl rfl rfl rfl rfl ?_; clear HS; intro w1 HS))
                  replace HS := sD HS
                  apply region_told ((fun (A0_ : Nat → Act) (a' : Act) (w' : World) => ∃ (g_pb : Nat), a' = A0_ g_pb ∧ Aside0 (Mod W w' No [bx g_pb 35 #[.int .i64 0, .int .i64 0], bx g_wb 35 #[(.int .i64 0), (.int .i64 1)], rowS (some ad) b y, bx g_x 24 #[.int .i64 (d : Int), .int .i64 (n : Int), .slice A l.length c]])) _)
                  case h1 =>
                    refine ps (.p 1 (.p 2 (.p 3 (.p 7 (.p 8 (.p 9 (.t 0 (.t 4 (.t 6 (.t 10 (.two 5 16 (.two 11 16 (.two 12 16 (.p 13 (.p 14 (.p 15 (.e 16 (.d 17 (.p 18 .done)))))) (.e 12 (.p 13 (.p 14 (.p 15 (.d 17 (.p 18 .done))))))) (.e 11 (.e 12 (.p 13 (.p 14 (.p 15 (.d 17 (.p 18 .done)))))))) (.e 5 (.e 11 (.e 12 (.p 13 (.p 14 (.p 15 (.d 17 (.p 18 .done))))))))))))))))))) (fun w' => w'.cell? ⟨g_x, 0, none⟩ = some (.int .i64 (d : Int)) ∧ w'.cell? ⟨g_x, 1, none⟩ = some (.int .i64 (n : Int)) ∧ w'.cell? ⟨g_x, 2, none⟩ = some (.slice A l.length c) ∧ w'.cell? (ad.add i) = some (.string v) ∧ w'.cell? (ad.add j) = some (.string u)) [17] ⟨HS.out.c 2 0 (v := .int .i64 (d : Int)) rfl rfl, HS.out.c 2 1 (v := .int .i64 (n : Int)) rfl rfl, HS.out.c 2 2 (v := .slice A l.length c) rfl rfl, HS.out.str 1 rfl HE1.out, HS.out.str 1 rfl HE2.out⟩ (fun hHeld => ?_)
                    repeat (first | ((with_reducible refine gate_p ?_); refine rp rfl rfl ?_) | ((with_reducible refine gate_t ?_); refine rt rfl rfl hHeld ?_))
                    refine run_two ?_ ?_
                    · skip
                      refine run_e rfl (fun K hK => ?_)
                      refine gc Try.func103 (HV.out v _ (HS.out.oldC HR.out)) rfl rfl ?_
                      rintro e_ w1 ⟨rfl, hb⟩
                      refine ⟨_, rfl, ?_⟩
                      replace HS := sB HS hb
                      refine ge hK ⟨HS.out.c 2 0 (v := .int .i64 (d : Int)) rfl rfl, HS.out.c 2 1 (v := .int .i64 (n : Int)) rfl rfl, HS.out.c 2 2 (v := .slice A l.length c) rfl rfl, HS.out.str 1 rfl HE1.out, HS.out.str 1 rfl HE2.out⟩ (fun hHeld => ?_)
                      refine run_two ?_ ?_
                      · skip
                        refine run_e rfl (fun K hK => ?_)
                        refine gc Try.func103 (HV.out u _ (HS.out.oldC HR.out)) rfl rfl ?_
                        rintro e_ w1 ⟨rfl, hb⟩
                        refine ⟨_, rfl, ?_⟩
                        replace HS := sB HS hb
                        refine ge hK ⟨HS.out.c 2 0 (v := .int .i64 (d : Int)) rfl rfl, HS.out.c 2 1 (v := .int .i64 (n : Int)) rfl rfl, HS.out.c 2 2 (v := .slice A l.length c) rfl rfl, HS.out.str 1 rfl HE1.out, HS.out.str 1 rfl HE2.out⟩ (fun hHeld => ?_)
                        refine run_two ?_ ?_
                        · skip
                          refine run_e rfl (fun K hK => ?_)
                          refine gc Try.func161 (HM.out _) rfl rfl ?_
                          rintro e_ w1 ⟨rfl, hb⟩
                          refine ⟨_, rfl, ?_⟩
                          replace HS := sB HS hb
                          refine ge hK ⟨HS.out.c 2 0 (v := .int .i64 (d : Int)) rfl rfl, HS.out.c 2 1 (v := .int .i64 (n : Int)) rfl rfl, HS.out.c 2 2 (v := .slice A l.length c) rfl rfl, HS.out.str 1 rfl HE1.out, HS.out.str 1 rfl HE2.out⟩ (fun hHeld => ?_)
                          repeat (first | ((with_reducible refine gate_p ?_); refine rp rfl rfl ?_) | ((with_reducible refine gate_t ?_); refine rt rfl rfl hHeld ?_))
                          refine run_e rfl (fun K hK => ?_)
                          refine bx1 35 #[(.int .i64 0), (.int .i64 0)] HS ?_
                          intro g_pb w1 hg_pb HS
                          refine ge hK ⟨HS.out.c 3 0 (v := .int .i64 (d : Int)) rfl rfl, HS.out.c 3 1 (v := .int .i64 (n : Int)) rfl rfl, HS.out.c 3 2 (v := .slice A l.length c) rfl rfl, HS.out.str 2 rfl HE1.out, HS.out.str 2 rfl HE2.out⟩ (fun hHeld => ?_)
                          refine run_d rfl (fun K hK => ?_)
                          refine st1 HS 0 0 #[.int .i64 0, .int .i64 0] rfl rfl rfl rfl rfl ?_
                          intro w1 HS
                          refine goD hK rfl ?_
                          repeat (first | ((with_reducible refine gate_p ?_); refine rp rfl rfl ?_) | ((with_reducible refine gate_t ?_); refine rt rfl rfl hHeld ?_))
                          refine run_done ?_
                          exact ⟨g_pb, rfl, HS⟩
                        · skip
                          refine run_e rfl (fun K hK => ?_)
                          refine bx1 35 #[(.int .i64 0), (.int .i64 0)] HS ?_
                          intro g_pb w1 hg_pb HS
                          refine ge hK ⟨HS.out.c 3 0 (v := .int .i64 (d : Int)) rfl rfl, HS.out.c 3 1 (v := .int .i64 (n : Int)) rfl rfl, HS.out.c 3 2 (v := .slice A l.length c) rfl rfl, HS.out.str 2 rfl HE1.out, HS.out.str 2 rfl HE2.out⟩ (fun hHeld => ?_)
                          refine run_e rfl (fun K hK => ?_)
                          refine gc Try.func161 (HM.out _) rfl rfl ?_
                          rintro e_ w1 ⟨rfl, hb⟩
                          refine ⟨_, rfl, ?_⟩
                          replace HS := sB HS hb
                          refine ge hK ⟨HS.out.c 3 0 (v := .int .i64 (d : Int)) rfl rfl, HS.out.c 3 1 (v := .int .i64 (n : Int)) rfl rfl, HS.out.c 3 2 (v := .slice A l.length c) rfl rfl, HS.out.str 2 rfl HE1.out, HS.out.str 2 rfl HE2.out⟩ (fun hHeld => ?_)
                          repeat (first | ((with_reducible refine gate_p ?_); refine rp rfl rfl ?_) | ((with_reducible refine gate_t ?_); refine rt rfl rfl hHeld ?_))
                          refine run_d rfl (fun K hK => ?_)
                          refine st1 HS 0 0 #[.int .i64 0, .int .i64 0] rfl rfl rfl rfl rfl ?_
                          intro w1 HS
                          refine goD hK rfl ?_
                          repeat (first | ((with_reducible refine gate_p ?_); refine rp rfl rfl ?_) | ((with_reducible refine gate_t ?_); refine rt rfl rfl hHeld ?_))
                          refine run_done ?_
                          have n_ := HS.out.sel [0, 1, 2, 3] (by decide)
                          simp only [List.filterMap_cons, List.filterMap_nil, List.getElem?_cons_zero, List.getElem?_cons_succ] at n_
                          exact ⟨g_pb, rfl, ⟨n_⟩⟩
                      · skip
                        refine run_e rfl (fun K hK => ?_)
                        refine bx1 35 #[(.int .i64 0), (.int .i64 0)] HS ?_
                        intro g_pb w1 hg_pb HS
                        refine ge hK ⟨HS.out.c 3 0 (v := .int .i64 (d : Int)) rfl rfl, HS.out.c 3 1 (v := .int .i64 (n : Int)) rfl rfl, HS.out.c 3 2 (v := .slice A l.length c) rfl rfl, HS.out.str 2 rfl HE1.out, HS.out.str 2 rfl HE2.out⟩ (fun hHeld => ?_)
                        refine run_e rfl (fun K hK => ?_)
                        refine gc Try.func103 (HV.out u _ (HS.out.oldC HR.out)) rfl rfl ?_
                        rintro e_ w1 ⟨rfl, hb⟩
                        refine ⟨_, rfl, ?_⟩
                        replace HS := sB HS hb
                        refine ge hK ⟨HS.out.c 3 0 (v := .int .i64 (d : Int)) rfl rfl, HS.out.c 3 1 (v := .int .i64 (n : Int)) rfl rfl, HS.out.c 3 2 (v := .slice A l.length c) rfl rfl, HS.out.str 2 rfl HE1.out, HS.out.str 2 rfl HE2.out⟩ (fun hHeld => ?_)
                        refine run_e rfl (fun K hK => ?_)
                        refine gc Try.func161 (HM.out _) rfl rfl ?_
                        rintro e_ w1 ⟨rfl, hb⟩
                        refine ⟨_, rfl, ?_⟩
                        replace HS := sB HS hb
                        refine ge hK ⟨HS.out.c 3 0 (v := .int .i64 (d : Int)) rfl rfl, HS.out.c 3 1 (v := .int .i64 (n : Int)) rfl rfl, HS.out.c 3 2 (v := .slice A l.length c) rfl rfl, HS.out.str 2 rfl HE1.out, HS.out.str 2 rfl HE2.out⟩ (fun hHeld => ?_)
                        repeat (first | ((with_reducible refine gate_p ?_); refine rp rfl rfl ?_) | ((with_reducible refine gate_t ?_); refine rt rfl rfl hHeld ?_))
                        refine run_d rfl (fun K hK => ?_)
                        refine st1 HS 0 0 #[.int .i64 0, .int .i64 0] rfl rfl rfl rfl rfl ?_
                        intro w1 HS
                        refine goD hK rfl ?_
                        repeat (first | ((with_reducible refine gate_p ?_); refine rp rfl rfl ?_) | ((with_reducible refine gate_t ?_); refine rt rfl rfl hHeld ?_))
                        refine run_done ?_
                        have n_ := HS.out.sel [0, 1, 2, 3] (by decide)
                        simp only [List.filterMap_cons, List.filterMap_nil, List.getElem?_cons_zero, List.getElem?_cons_succ] at n_
                        exact ⟨g_pb, rfl, ⟨n_⟩⟩
                    · skip
                      refine run_e rfl (fun K hK => ?_)
                      refine bx1 35 #[(.int .i64 0), (.int .i64 0)] HS ?_
                      intro g_pb w1 hg_pb HS
                      refine ge hK ⟨HS.out.c 3 0 (v := .int .i64 (d : Int)) rfl rfl, HS.out.c 3 1 (v := .int .i64 (n : Int)) rfl rfl, HS.out.c 3 2 (v := .slice A l.length c) rfl rfl, HS.out.str 2 rfl HE1.out, HS.out.str 2 rfl HE2.out⟩ (fun hHeld => ?_)
                      refine run_e rfl (fun K hK => ?_)
                      refine gc Try.func103 (HV.out v _ (HS.out.oldC HR.out)) rfl rfl ?_
                      rintro e_ w1 ⟨rfl, hb⟩
                      refine ⟨_, rfl, ?_⟩
                      replace HS := sB HS hb
                      refine ge hK ⟨HS.out.c 3 0 (v := .int .i64 (d : Int)) rfl rfl, HS.out.c 3 1 (v := .int .i64 (n : Int)) rfl rfl, HS.out.c 3 2 (v := .slice A l.length c) rfl rfl, HS.out.str 2 rfl HE1.out, HS.out.str 2 rfl HE2.out⟩ (fun hHeld => ?_)
                      refine run_e rfl (fun K hK => ?_)
                      refine gc Try.func103 (HV.out u _ (HS.out.oldC HR.out)) rfl rfl ?_
                      rintro e_ w1 ⟨rfl, hb⟩
                      refine ⟨_, rfl, ?_⟩
                      replace HS := sB HS hb
                      refine ge hK ⟨HS.out.c 3 0 (v := .int .i64 (d : Int)) rfl rfl, HS.out.c 3 1 (v := .int .i64 (n : Int)) rfl rfl, HS.out.c 3 2 (v := .slice A l.length c) rfl rfl, HS.out.str 2 rfl HE1.out, HS.out.str 2 rfl HE2.out⟩ (fun hHeld => ?_)
                      refine run_e rfl (fun K hK => ?_)
                      refine gc Try.func161 (HM.out _) rfl rfl ?_
                      rintro e_ w1 ⟨rfl, hb⟩
                      refine ⟨_, rfl, ?_⟩
                      replace HS := sB HS hb
                      refine ge hK ⟨HS.out.c 3 0 (v := .int .i64 (d : Int)) rfl rfl, HS.out.c 3 1 (v := .int .i64 (n : Int)) rfl rfl, HS.out.c 3 2 (v := .slice A l.length c) rfl rfl, HS.out.str 2 rfl HE1.out, HS.out.str 2 rfl HE2.out⟩ (fun hHeld => ?_)
                      repeat (first | ((with_reducible refine gate_p ?_); refine rp rfl rfl ?_) | ((with_reducible refine gate_t ?_); refine rt rfl rfl hHeld ?_))
                      refine run_d rfl (fun K hK => ?_)
                      refine st1 HS 0 0 #[.int .i64 0, .int .i64 0] rfl rfl rfl rfl rfl ?_
                      intro w1 HS
                      refine goD hK rfl ?_
                      repeat (first | ((with_reducible refine gate_p ?_); refine rp rfl rfl ?_) | ((with_reducible refine gate_t ?_); refine rt rfl rfl hHeld ?_))
                      refine run_done ?_
                      have n_ := HS.out.sel [0, 1, 2, 3] (by decide)
                      simp only [List.filterMap_cons, List.filterMap_nil, List.getElem?_cons_zero, List.getElem?_cons_succ] at n_
                      exact ⟨g_pb, rfl, ⟨n_⟩⟩
                  clear HS
                  rintro a_ w1 ⟨g_pb, rfl, HS⟩
                  go_wp2
                  go_ret2
                  rw [HB2.out _ (by unfold verdict; rw [HW.out])]
                  exact ⟨rfl, HS.out.below⟩
                | some f =>
                  cases o with
                  | none =>
                    go_wp2
                    replace HS := sD HS
                    refine ps (.p 0 (.p 1 (.p 2 (.p 5 (.p 6 (.p 7 (.p 11 (.t 3 (.p 4 (.t 8 (.p 9 (.p 10 (.t 12 (.p 13 .done)))))))))))))) (fun w' => w'.cell? (ad.add i) = some (.string v) ∧ w'.cell? (ad.add j) = some (.string u) ∧ w'.cell? ⟨g_x, 1, none⟩ = some (.int .i64 (n : Int))) [] ⟨HS.out.str 0 rfl HE1.out, HS.out.str 0 rfl HE2.out, HS.out.c 1 1 (v := .int .i64 (n : Int)) rfl rfl⟩ (fun hHeld => ?_)
                    repeat (first | ((with_reducible refine gate_p ?_); refine rp rfl rfl ?_) | ((with_reducible refine gate_t ?_); refine rt rfl rfl hHeld ?_))
                    refine run_done ?_
                    clear hHeld
                    simp only [i64_w, HZW.out]
                    go_wp2_with (first | ((with_reducible refine gate_dst (N := 10) rfl ?_); refine bxL 35 #[(.int .i64 0), (.int .i64 0)] HS ?_; clear HS; intro g_wb w1 hg_wb HS) | ((with_reducible refine gate_store (t := 35) (p := 10) rfl ?_); refine stL HS 0 0 #[(.int .i64 0), (.int .i64 1)] rfl rfl rfl rfl rfl ?_; clear HS; intro w1 HS))
                    replace HS := sD HS
                    apply region_told ((fun (A0_ : Nat → Act) (a' : Act) (w' : World) => ∃ (g_pb : Nat), a' = A0_ g_pb ∧ Aside0 (Mod W w' No [bx g_pb 35 #[.int .i64 f.1, .int .i64 f.2], bx g_wb 35 #[(.int .i64 0), (.int .i64 1)], rowS (some ad) b y, bx g_x 24 #[.int .i64 (d : Int), .int .i64 (n : Int), .slice A l.length c]])) _)
                    case h1 =>
                      refine ps (.p 1 (.p 2 (.p 3 (.p 7 (.p 8 (.p 9 (.t 0 (.t 4 (.t 6 (.t 10 (.two 5 16 (.two 11 16 (.two 12 16 (.p 13 (.p 14 (.p 15 (.e 16 (.d 17 (.p 18 .done)))))) (.e 12 (.p 13 (.p 14 (.p 15 (.d 17 (.p 18 .done))))))) (.e 11 (.e 12 (.p 13 (.p 14 (.p 15 (.d 17 (.p 18 .done)))))))) (.e 5 (.e 11 (.e 12 (.p 13 (.p 14 (.p 15 (.d 17 (.p 18 .done))))))))))))))))))) (fun w' => w'.cell? ⟨g_x, 0, none⟩ = some (.int .i64 (d : Int)) ∧ w'.cell? ⟨g_x, 1, none⟩ = some (.int .i64 (n : Int)) ∧ w'.cell? ⟨g_x, 2, none⟩ = some (.slice A l.length c) ∧ w'.cell? (ad.add i) = some (.string v) ∧ w'.cell? (ad.add j) = some (.string u)) [17] ⟨HS.out.c 2 0 (v := .int .i64 (d : Int)) rfl rfl, HS.out.c 2 1 (v := .int .i64 (n : Int)) rfl rfl, HS.out.c 2 2 (v := .slice A l.length c) rfl rfl, HS.out.str 1 rfl HE1.out, HS.out.str 1 rfl HE2.out⟩ (fun hHeld => ?_)
                      repeat (first | ((with_reducible refine gate_p ?_); refine rp rfl rfl ?_) | ((with_reducible refine gate_t ?_); refine rt rfl rfl hHeld ?_))
                      refine run_two ?_ ?_
                      · skip
                        refine run_e rfl (fun K hK => ?_)
                        refine gc Try.func103 (HV.out v _ (HS.out.oldC HR.out)) rfl rfl ?_
                        rintro e_ w1 ⟨rfl, hb⟩
                        refine ⟨_, rfl, ?_⟩
                        replace HS := sB HS hb
                        refine ge hK ⟨HS.out.c 2 0 (v := .int .i64 (d : Int)) rfl rfl, HS.out.c 2 1 (v := .int .i64 (n : Int)) rfl rfl, HS.out.c 2 2 (v := .slice A l.length c) rfl rfl, HS.out.str 1 rfl HE1.out, HS.out.str 1 rfl HE2.out⟩ (fun hHeld => ?_)
                        refine run_two ?_ ?_
                        · skip
                          refine run_e rfl (fun K hK => ?_)
                          refine gc Try.func103 (HV.out u _ (HS.out.oldC HR.out)) rfl rfl ?_
                          rintro e_ w1 ⟨rfl, hb⟩
                          refine ⟨_, rfl, ?_⟩
                          replace HS := sB HS hb
                          refine ge hK ⟨HS.out.c 2 0 (v := .int .i64 (d : Int)) rfl rfl, HS.out.c 2 1 (v := .int .i64 (n : Int)) rfl rfl, HS.out.c 2 2 (v := .slice A l.length c) rfl rfl, HS.out.str 1 rfl HE1.out, HS.out.str 1 rfl HE2.out⟩ (fun hHeld => ?_)
                          refine run_two ?_ ?_
                          · skip
                            refine run_e rfl (fun K hK => ?_)
                            refine gc Try.func161 (HM.out _) rfl rfl ?_
                            rintro e_ w1 ⟨rfl, hb⟩
                            refine ⟨_, rfl, ?_⟩
                            replace HS := sB HS hb
                            refine ge hK ⟨HS.out.c 2 0 (v := .int .i64 (d : Int)) rfl rfl, HS.out.c 2 1 (v := .int .i64 (n : Int)) rfl rfl, HS.out.c 2 2 (v := .slice A l.length c) rfl rfl, HS.out.str 1 rfl HE1.out, HS.out.str 1 rfl HE2.out⟩ (fun hHeld => ?_)
                            repeat (first | ((with_reducible refine gate_p ?_); refine rp rfl rfl ?_) | ((with_reducible refine gate_t ?_); refine rt rfl rfl hHeld ?_))
                            refine run_e rfl (fun K hK => ?_)
                            refine bx1 35 #[(.int .i64 0), (.int .i64 0)] HS ?_
                            intro g_pb w1 hg_pb HS
                            refine ge hK ⟨HS.out.c 3 0 (v := .int .i64 (d : Int)) rfl rfl, HS.out.c 3 1 (v := .int .i64 (n : Int)) rfl rfl, HS.out.c 3 2 (v := .slice A l.length c) rfl rfl, HS.out.str 2 rfl HE1.out, HS.out.str 2 rfl HE2.out⟩ (fun hHeld => ?_)
                            refine run_d rfl (fun K hK => ?_)
                            refine st1 HS 0 0 #[.int .i64 f.1, .int .i64 f.2] rfl rfl rfl rfl rfl ?_
                            intro w1 HS
                            refine goD hK rfl ?_
                            repeat (first | ((with_reducible refine gate_p ?_); refine rp rfl rfl ?_) | ((with_reducible refine gate_t ?_); refine rt rfl rfl hHeld ?_))
                            refine run_done ?_
                            exact ⟨g_pb, rfl, HS⟩
                          · skip
                            refine run_e rfl (fun K hK => ?_)
                            refine bx1 35 #[(.int .i64 0), (.int .i64 0)] HS ?_
                            intro g_pb w1 hg_pb HS
                            refine ge hK ⟨HS.out.c 3 0 (v := .int .i64 (d : Int)) rfl rfl, HS.out.c 3 1 (v := .int .i64 (n : Int)) rfl rfl, HS.out.c 3 2 (v := .slice A l.length c) rfl rfl, HS.out.str 2 rfl HE1.out, HS.out.str 2 rfl HE2.out⟩ (fun hHeld => ?_)
                            refine run_e rfl (fun K hK => ?_)
                            refine gc Try.func161 (HM.out _) rfl rfl ?_
                            rintro e_ w1 ⟨rfl, hb⟩
                            refine ⟨_, rfl, ?_⟩
                            replace HS := sB HS hb
                            refine ge hK ⟨HS.out.c 3 0 (v := .int .i64 (d : Int)) rfl rfl, HS.out.c 3 1 (v := .int .i64 (n : Int)) rfl rfl, HS.out.c 3 2 (v := .slice A l.length c) rfl rfl, HS.out.str 2 rfl HE1.out, HS.out.str 2 rfl HE2.out⟩ (fun hHeld => ?_)
                            repeat (first | ((with_reducible refine gate_p ?_); refine rp rfl rfl ?_) | ((with_reducible refine gate_t ?_); refine rt rfl rfl hHeld ?_))
                            refine run_d rfl (fun K hK => ?_)
                            refine st1 HS 0 0 #[.int .i64 f.1, .int .i64 f.2] rfl rfl rfl rfl rfl ?_
                            intro w1 HS
                            refine goD hK rfl ?_
                            repeat (first | ((with_reducible refine gate_p ?_); refine rp rfl rfl ?_) | ((with_reducible refine gate_t ?_); refine rt rfl rfl hHeld ?_))
                            refine run_done ?_
                            have n_ := HS.out.sel [0, 1, 2, 3] (by decide)
                            simp only [List.filterMap_cons, List.filterMap_nil, List.getElem?_cons_zero, List.getElem?_cons_succ] at n_
                            exact ⟨g_pb, rfl, ⟨n_⟩⟩
                        · skip
                          refine run_e rfl (fun K hK => ?_)
                          refine bx1 35 #[(.int .i64 0), (.int .i64 0)] HS ?_
                          intro g_pb w1 hg_pb HS
                          refine ge hK ⟨HS.out.c 3 0 (v := .int .i64 (d : Int)) rfl rfl, HS.out.c 3 1 (v := .int .i64 (n : Int)) rfl rfl, HS.out.c 3 2 (v := .slice A l.length c) rfl rfl, HS.out.str 2 rfl HE1.out, HS.out.str 2 rfl HE2.out⟩ (fun hHeld => ?_)
                          refine run_e rfl (fun K hK => ?_)
                          refine gc Try.func103 (HV.out u _ (HS.out.oldC HR.out)) rfl rfl ?_
                          rintro e_ w1 ⟨rfl, hb⟩
                          refine ⟨_, rfl, ?_⟩
                          replace HS := sB HS hb
                          refine ge hK ⟨HS.out.c 3 0 (v := .int .i64 (d : Int)) rfl rfl, HS.out.c 3 1 (v := .int .i64 (n : Int)) rfl rfl, HS.out.c 3 2 (v := .slice A l.length c) rfl rfl, HS.out.str 2 rfl HE1.out, HS.out.str 2 rfl HE2.out⟩ (fun hHeld => ?_)
                          refine run_e rfl (fun K hK => ?_)
                          refine gc Try.func161 (HM.out _) rfl rfl ?_
                          rintro e_ w1 ⟨rfl, hb⟩
                          refine ⟨_, rfl, ?_⟩
                          replace HS := sB HS hb
                          refine ge hK ⟨HS.out.c 3 0 (v := .int .i64 (d : Int)) rfl rfl, HS.out.c 3 1 (v := .int .i64 (n : Int)) rfl rfl, HS.out.c 3 2 (v := .slice A l.length c) rfl rfl, HS.out.str 2 rfl HE1.out, HS.out.str 2 rfl HE2.out⟩ (fun hHeld => ?_)
                          repeat (first | ((with_reducible refine gate_p ?_); refine rp rfl rfl ?_) | ((with_reducible refine gate_t ?_); refine rt rfl rfl hHeld ?_))
                          refine run_d rfl (fun K hK => ?_)
                          refine st1 HS 0 0 #[.int .i64 f.1, .int .i64 f.2] rfl rfl rfl rfl rfl ?_
                          intro w1 HS
                          refine goD hK rfl ?_
                          repeat (first | ((with_reducible refine gate_p ?_); refine rp rfl rfl ?_) | ((with_reducible refine gate_t ?_); refine rt rfl rfl hHeld ?_))
                          refine run_done ?_
                          have n_ := HS.out.sel [0, 1, 2, 3] (by decide)
                          simp only [List.filterMap_cons, List.filterMap_nil, List.getElem?_cons_zero, List.getElem?_cons_succ] at n_
                          exact ⟨g_pb, rfl, ⟨n_⟩⟩
                      · skip
                        refine run_e rfl (fun K hK => ?_)
                        refine bx1 35 #[(.int .i64 0), (.int .i64 0)] HS ?_
                        intro g_pb w1 hg_pb HS
                        refine ge hK ⟨HS.out.c 3 0 (v := .int .i64 (d : Int)) rfl rfl, HS.out.c 3 1 (v := .int .i64 (n : Int)) rfl rfl, HS.out.c 3 2 (v := .slice A l.length c) rfl rfl, HS.out.str 2 rfl HE1.out, HS.out.str 2 rfl HE2.out⟩ (fun hHeld => ?_)
                        refine run_e rfl (fun K hK => ?_)
                        refine gc Try.func103 (HV.out v _ (HS.out.oldC HR.out)) rfl rfl ?_
                        rintro e_ w1 ⟨rfl, hb⟩
                        refine ⟨_, rfl, ?_⟩
                        replace HS := sB HS hb
                        refine ge hK ⟨HS.out.c 3 0 (v := .int .i64 (d : Int)) rfl rfl, HS.out.c 3 1 (v := .int .i64 (n : Int)) rfl rfl, HS.out.c 3 2 (v := .slice A l.length c) rfl rfl, HS.out.str 2 rfl HE1.out, HS.out.str 2 rfl HE2.out⟩ (fun hHeld => ?_)
                        refine run_e rfl (fun K hK => ?_)
                        refine gc Try.func103 (HV.out u _ (HS.out.oldC HR.out)) rfl rfl ?_
                        rintro e_ w1 ⟨rfl, hb⟩
                        refine ⟨_, rfl, ?_⟩
                        replace HS := sB HS hb
                        refine ge hK ⟨HS.out.c 3 0 (v := .int .i64 (d : Int)) rfl rfl, HS.out.c 3 1 (v := .int .i64 (n : Int)) rfl rfl, HS.out.c 3 2 (v := .slice A l.length c) rfl rfl, HS.out.str 2 rfl HE1.out, HS.out.str 2 rfl HE2.out⟩ (fun hHeld => ?_)
                        refine run_e rfl (fun K hK => ?_)
                        refine gc Try.func161 (HM.out _) rfl rfl ?_
                        rintro e_ w1 ⟨rfl, hb⟩
                        refine ⟨_, rfl, ?_⟩
                        replace HS := sB HS hb
                        refine ge hK ⟨HS.out.c 3 0 (v := .int .i64 (d : Int)) rfl rfl, HS.out.c 3 1 (v := .int .i64 (n : Int)) rfl rfl, HS.out.c 3 2 (v := .slice A l.length c) rfl rfl, HS.out.str 2 rfl HE1.out, HS.out.str 2 rfl HE2.out⟩ (fun hHeld => ?_)
                        repeat (first | ((with_reducible refine gate_p ?_); refine rp rfl rfl ?_) | ((with_reducible refine gate_t ?_); refine rt rfl rfl hHeld ?_))
                        refine run_d rfl (fun K hK => ?_)
                        refine st1 HS 0 0 #[.int .i64 f.1, .int .i64 f.2] rfl rfl rfl rfl rfl ?_
                        intro w1 HS
                        refine goD hK rfl ?_
                        repeat (first | ((with_reducible refine gate_p ?_); refine rp rfl rfl ?_) | ((with_reducible refine gate_t ?_); refine rt rfl rfl hHeld ?_))
                        refine run_done ?_
                        have n_ := HS.out.sel [0, 1, 2, 3] (by decide)
                        simp only [List.filterMap_cons, List.filterMap_nil, List.getElem?_cons_zero, List.getElem?_cons_succ] at n_
                        exact ⟨g_pb, rfl, ⟨n_⟩⟩
                    clear HS
                    rintro a_ w1 ⟨g_pb, rfl, HS⟩
                    have f1_ := HS.out.c 0 0 (v := .int .i64 f.1) rfl rfl
                    have f2_ := HS.out.c 0 1 (v := .int .i64 f.2) rfl rfl
                    go_wp2_with (first | ((with_reducible refine gate_store (t := 35) (p := 10) rfl ?_); refine stL HS 1 0 #[.int .i64 f.1, .int .i64 f.2] rfl rfl rfl rfl rfl ?_; clear HS f1_ f2_; intro w1 HS))
                    replace HS := sD HS
                    apply region_told ((fun (A0_ : Nat → Act) (a' : Act) (w' : World) => ∃ (g_vb : Nat), a' = A0_ g_vb ∧ Aside0 (Mod W w' No [bx g_vb 35 #[.int .i64 0, .int .i64 0], bx g_pb 35 #[.int .i64 f.1, .int .i64 f.2], bx g_wb 35 #[.int .i64 f.1, .int .i64 f.2], rowS (some ad) b y, bx g_x 24 #[.int .i64 (d : Int), .int .i64 (n : Int), .slice A l.length c]])) _)
                    case h1 =>
                      refine ps (.p 1 (.p 2 (.p 3 (.p 5 (.p 6 (.p 7 (.t 0 (.t 4 (.t 8 (.two 9 13 (.p 10 (.p 11 (.p 12 (.e 13 (.d 14 (.p 15 .done)))))) (.e 9 (.p 10 (.p 11 (.p 12 (.d 14 (.p 15 .done)))))))))))))))) (fun w' => w'.cell? ⟨g_x, 0, none⟩ = some (.int .i64 (d : Int)) ∧ w'.cell? ⟨g_x, 1, none⟩ = some (.int .i64 (n : Int)) ∧ w'.cell? ⟨g_x, 2, none⟩ = some (.slice A l.length c) ∧ w'.cell? (ad.add i) = some (.string v) ∧ w'.cell? (ad.add j) = some (.string u)) [14] ⟨HS.out.c 3 0 (v := .int .i64 (d : Int)) rfl rfl, HS.out.c 3 1 (v := .int .i64 (n : Int)) rfl rfl, HS.out.c 3 2 (v := .slice A l.length c) rfl rfl, HS.out.str 2 rfl HE1.out, HS.out.str 2 rfl HE2.out⟩ (fun hHeld => ?_)
                      repeat (first | ((with_reducible refine gate_p ?_); refine rp rfl rfl ?_) | ((with_reducible refine gate_t ?_); refine rt rfl rfl hHeld ?_))
                      refine run_two ?_ ?_
                      · skip
                        refine run_e rfl (fun K hK => ?_)
                        refine gc Try.func96 (HP.out _ (HS.out.oldC HR.out)) rfl rfl ?_
                        rintro e_ w1 ⟨rfl, hb⟩
                        refine ⟨_, rfl, ?_⟩
                        replace HS := sB HS hb
                        refine ge hK ⟨HS.out.c 3 0 (v := .int .i64 (d : Int)) rfl rfl, HS.out.c 3 1 (v := .int .i64 (n : Int)) rfl rfl, HS.out.c 3 2 (v := .slice A l.length c) rfl rfl, HS.out.str 2 rfl HE1.out, HS.out.str 2 rfl HE2.out⟩ (fun hHeld => ?_)
                        repeat (first | ((with_reducible refine gate_p ?_); refine rp rfl rfl ?_) | ((with_reducible refine gate_t ?_); refine rt rfl rfl hHeld ?_))
                        refine run_e rfl (fun K hK => ?_)
                        refine bx1 35 #[(.int .i64 0), (.int .i64 0)] HS ?_
                        intro g_vb w1 hg_vb HS
                        refine ge hK ⟨HS.out.c 4 0 (v := .int .i64 (d : Int)) rfl rfl, HS.out.c 4 1 (v := .int .i64 (n : Int)) rfl rfl, HS.out.c 4 2 (v := .slice A l.length c) rfl rfl, HS.out.str 3 rfl HE1.out, HS.out.str 3 rfl HE2.out⟩ (fun hHeld => ?_)
                        refine run_d rfl (fun K hK => ?_)
                        refine st1 HS 0 0 #[.int .i64 0, .int .i64 0] rfl rfl rfl rfl rfl ?_
                        intro w1 HS
                        refine goD hK rfl ?_
                        repeat (first | ((with_reducible refine gate_p ?_); refine rp rfl rfl ?_) | ((with_reducible refine gate_t ?_); refine rt rfl rfl hHeld ?_))
                        refine run_done ?_
                        exact ⟨g_vb, rfl, HS⟩
                      · skip
                        refine run_e rfl (fun K hK => ?_)
                        refine bx1 35 #[(.int .i64 0), (.int .i64 0)] HS ?_
                        intro g_vb w1 hg_vb HS
                        refine ge hK ⟨HS.out.c 4 0 (v := .int .i64 (d : Int)) rfl rfl, HS.out.c 4 1 (v := .int .i64 (n : Int)) rfl rfl, HS.out.c 4 2 (v := .slice A l.length c) rfl rfl, HS.out.str 3 rfl HE1.out, HS.out.str 3 rfl HE2.out⟩ (fun hHeld => ?_)
                        refine run_e rfl (fun K hK => ?_)
                        refine gc Try.func96 (HP.out _ (HS.out.oldC HR.out)) rfl rfl ?_
                        rintro e_ w1 ⟨rfl, hb⟩
                        refine ⟨_, rfl, ?_⟩
                        replace HS := sB HS hb
                        refine ge hK ⟨HS.out.c 4 0 (v := .int .i64 (d : Int)) rfl rfl, HS.out.c 4 1 (v := .int .i64 (n : Int)) rfl rfl, HS.out.c 4 2 (v := .slice A l.length c) rfl rfl, HS.out.str 3 rfl HE1.out, HS.out.str 3 rfl HE2.out⟩ (fun hHeld => ?_)
                        repeat (first | ((with_reducible refine gate_p ?_); refine rp rfl rfl ?_) | ((with_reducible refine gate_t ?_); refine rt rfl rfl hHeld ?_))
                        refine run_d rfl (fun K hK => ?_)
                        refine st1 HS 0 0 #[.int .i64 0, .int .i64 0] rfl rfl rfl rfl rfl ?_
                        intro w1 HS
                        refine goD hK rfl ?_
                        repeat (first | ((with_reducible refine gate_p ?_); refine rp rfl rfl ?_) | ((with_reducible refine gate_t ?_); refine rt rfl rfl hHeld ?_))
                        refine run_done ?_
                        have n_ := HS.out.sel [0, 1, 2, 3, 4] (by decide)
                        simp only [List.filterMap_cons, List.filterMap_nil, List.getElem?_cons_zero, List.getElem?_cons_succ] at n_
                        exact ⟨g_vb, rfl, ⟨n_⟩⟩
                    clear HS
                    rintro a_ w1 ⟨g_vb, rfl, HS⟩
                    go_wp2
                    go_ret2
                    rw [HB2.out _ (by unfold verdict; rw [HW.out]; show (match atS d l v u with | none => _ | some c => _) = _; rw [← HO.out])]
                    exact ⟨rfl, HS.out.below⟩
                  | some e =>
                    by_cases h1 : e.1 = f.1
                    · by_cases h2 : e.2 = f.2
                      · have he : e = (f.1, f.2) := Prod.ext h1 h2
                        have HN := Aside0.mk (HNX.out (by unfold verdict; rw [HW.out]; show (match atS d l v u with | none => _ | some c => _) = _; rw [← HO.out]; exact if_pos he))
                        have hq1 : (e.1 == f.1) = true := by rw [h1]; exact beq_self_eq_true _
                        have hq2 : (e.2 == f.2) = true := by rw [h2]; exact beq_self_eq_true _
                        clear h1 h2 he
                        go_wp2
                        replace HS := sD HS
                        refine ps (.p 0 (.p 1 (.p 2 (.p 5 (.p 6 (.p 7 (.p 11 (.t 3 (.p 4 (.t 8 (.p 9 (.p 10 (.t 12 (.p 13 .done)))))))))))))) (fun w' => w'.cell? (ad.add i) = some (.string v) ∧ w'.cell? (ad.add j) = some (.string u) ∧ w'.cell? ⟨g_x, 1, none⟩ = some (.int .i64 (n : Int))) [] ⟨HS.out.str 0 rfl HE1.out, HS.out.str 0 rfl HE2.out, HS.out.c 1 1 (v := .int .i64 (n : Int)) rfl rfl⟩ (fun hHeld => ?_)
                        repeat (first | ((with_reducible refine gate_p ?_); refine rp rfl rfl ?_) | ((with_reducible refine gate_t ?_); refine rt rfl rfl hHeld ?_))
                        refine run_done ?_
                        clear hHeld
                        simp only [i64_w, HZW.out]
                        go_wp2_with (first | ((with_reducible refine gate_dst (N := 10) rfl ?_); refine bxL 35 #[(.int .i64 0), (.int .i64 0)] HS ?_; clear HS; intro g_wb w1 hg_wb HS) | ((with_reducible refine gate_store (t := 35) (p := 10) rfl ?_); refine stL HS 0 0 #[(.int .i64 0), (.int .i64 1)] rfl rfl rfl rfl rfl ?_; clear HS; intro w1 HS))
                        replace HS := sD HS
                        apply region_told ((fun (A0_ : Nat → Act) (a' : Act) (w' : World) => ∃ (g_pb : Nat), a' = A0_ g_pb ∧ Aside0 (Mod W w' No [bx g_pb 35 #[.int .i64 f.1, .int .i64 f.2], bx g_wb 35 #[(.int .i64 0), (.int .i64 1)], rowS (some ad) b y, bx g_x 24 #[.int .i64 (d : Int), .int .i64 (n : Int), .slice A l.length c]])) _)
                        case h1 =>
                          refine ps (.p 1 (.p 2 (.p 3 (.p 7 (.p 8 (.p 9 (.t 0 (.t 4 (.t 6 (.t 10 (.two 5 16 (.two 11 16 (.two 12 16 (.p 13 (.p 14 (.p 15 (.e 16 (.d 17 (.p 18 .done)))))) (.e 12 (.p 13 (.p 14 (.p 15 (.d 17 (.p 18 .done))))))) (.e 11 (.e 12 (.p 13 (.p 14 (.p 15 (.d 17 (.p 18 .done)))))))) (.e 5 (.e 11 (.e 12 (.p 13 (.p 14 (.p 15 (.d 17 (.p 18 .done))))))))))))))))))) (fun w' => w'.cell? ⟨g_x, 0, none⟩ = some (.int .i64 (d : Int)) ∧ w'.cell? ⟨g_x, 1, none⟩ = some (.int .i64 (n : Int)) ∧ w'.cell? ⟨g_x, 2, none⟩ = some (.slice A l.length c) ∧ w'.cell? (ad.add i) = some (.string v) ∧ w'.cell? (ad.add j) = some (.string u)) [17] ⟨HS.out.c 2 0 (v := .int .i64 (d : Int)) rfl rfl, HS.out.c 2 1 (v := .int .i64 (n : Int)) rfl rfl, HS.out.c 2 2 (v := .slice A l.length c) rfl rfl, HS.out.str 1 rfl HE1.out, HS.out.str 1 rfl HE2.out⟩ (fun hHeld => ?_)
                          repeat (first | ((with_reducible refine gate_p ?_); refine rp rfl rfl ?_) | ((with_reducible refine gate_t ?_); refine rt rfl rfl hHeld ?_))
                          refine run_two ?_ ?_
                          · skip
                            refine run_e rfl (fun K hK => ?_)
                            refine gc Try.func103 (HV.out v _ (HS.out.oldC HR.out)) rfl rfl ?_
                            rintro e_ w1 ⟨rfl, hb⟩
                            refine ⟨_, rfl, ?_⟩
                            replace HS := sB HS hb
                            refine ge hK ⟨HS.out.c 2 0 (v := .int .i64 (d : Int)) rfl rfl, HS.out.c 2 1 (v := .int .i64 (n : Int)) rfl rfl, HS.out.c 2 2 (v := .slice A l.length c) rfl rfl, HS.out.str 1 rfl HE1.out, HS.out.str 1 rfl HE2.out⟩ (fun hHeld => ?_)
                            refine run_two ?_ ?_
                            · skip
                              refine run_e rfl (fun K hK => ?_)
                              refine gc Try.func103 (HV.out u _ (HS.out.oldC HR.out)) rfl rfl ?_
                              rintro e_ w1 ⟨rfl, hb⟩
                              refine ⟨_, rfl, ?_⟩
                              replace HS := sB HS hb
                              refine ge hK ⟨HS.out.c 2 0 (v := .int .i64 (d : Int)) rfl rfl, HS.out.c 2 1 (v := .int .i64 (n : Int)) rfl rfl, HS.out.c 2 2 (v := .slice A l.length c) rfl rfl, HS.out.str 1 rfl HE1.out, HS.out.str 1 rfl HE2.out⟩ (fun hHeld => ?_)
                              refine run_two ?_ ?_
                              · skip
                                refine run_e rfl (fun K hK => ?_)
                                refine gc Try.func161 (HM.out _) rfl rfl ?_
                                rintro e_ w1 ⟨rfl, hb⟩
                                refine ⟨_, rfl, ?_⟩
                                replace HS := sB HS hb
                                refine ge hK ⟨HS.out.c 2 0 (v := .int .i64 (d : Int)) rfl rfl, HS.out.c 2 1 (v := .int .i64 (n : Int)) rfl rfl, HS.out.c 2 2 (v := .slice A l.length c) rfl rfl, HS.out.str 1 rfl HE1.out, HS.out.str 1 rfl HE2.out⟩ (fun hHeld => ?_)
                                repeat (first | ((with_reducible refine gate_p ?_); refine rp rfl rfl ?_) | ((with_reducible refine gate_t ?_); refine rt rfl rfl hHeld ?_))
                                refine run_e rfl (fun K hK => ?_)
                                refine bx1 35 #[(.int .i64 0), (.int .i64 0)] HS ?_
                                intro g_pb w1 hg_pb HS
                                refine ge hK ⟨HS.out.c 3 0 (v := .int .i64 (d : Int)) rfl rfl, HS.out.c 3 1 (v := .int .i64 (n : Int)) rfl rfl, HS.out.c 3 2 (v := .slice A l.length c) rfl rfl, HS.out.str 2 rfl HE1.out, HS.out.str 2 rfl HE2.out⟩ (fun hHeld => ?_)
                                refine run_d rfl (fun K hK => ?_)
                                refine st1 HS 0 0 #[.int .i64 f.1, .int .i64 f.2] rfl rfl rfl rfl rfl ?_
                                intro w1 HS
                                refine goD hK rfl ?_
                                repeat (first | ((with_reducible refine gate_p ?_); refine rp rfl rfl ?_) | ((with_reducible refine gate_t ?_); refine rt rfl rfl hHeld ?_))
                                refine run_done ?_
                                exact ⟨g_pb, rfl, HS⟩
                              · skip
                                refine run_e rfl (fun K hK => ?_)
                                refine bx1 35 #[(.int .i64 0), (.int .i64 0)] HS ?_
                                intro g_pb w1 hg_pb HS
                                refine ge hK ⟨HS.out.c 3 0 (v := .int .i64 (d : Int)) rfl rfl, HS.out.c 3 1 (v := .int .i64 (n : Int)) rfl rfl, HS.out.c 3 2 (v := .slice A l.length c) rfl rfl, HS.out.str 2 rfl HE1.out, HS.out.str 2 rfl HE2.out⟩ (fun hHeld => ?_)
                                refine run_e rfl (fun K hK => ?_)
                                refine gc Try.func161 (HM.out _) rfl rfl ?_
                                rintro e_ w1 ⟨rfl, hb⟩
                                refine ⟨_, rfl, ?_⟩
                                replace HS := sB HS hb
                                refine ge hK ⟨HS.out.c 3 0 (v := .int .i64 (d : Int)) rfl rfl, HS.out.c 3 1 (v := .int .i64 (n : Int)) rfl rfl, HS.out.c 3 2 (v := .slice A l.length c) rfl rfl, HS.out.str 2 rfl HE1.out, HS.out.str 2 rfl HE2.out⟩ (fun hHeld => ?_)
                                repeat (first | ((with_reducible refine gate_p ?_); refine rp rfl rfl ?_) | ((with_reducible refine gate_t ?_); refine rt rfl rfl hHeld ?_))
                                refine run_d rfl (fun K hK => ?_)
                                refine st1 HS 0 0 #[.int .i64 f.1, .int .i64 f.2] rfl rfl rfl rfl rfl ?_
                                intro w1 HS
                                refine goD hK rfl ?_
                                repeat (first | ((with_reducible refine gate_p ?_); refine rp rfl rfl ?_) | ((with_reducible refine gate_t ?_); refine rt rfl rfl hHeld ?_))
                                refine run_done ?_
                                have n_ := HS.out.sel [0, 1, 2, 3] (by decide)
                                simp only [List.filterMap_cons, List.filterMap_nil, List.getElem?_cons_zero, List.getElem?_cons_succ] at n_
                                exact ⟨g_pb, rfl, ⟨n_⟩⟩
                            · skip
                              refine run_e rfl (fun K hK => ?_)
                              refine bx1 35 #[(.int .i64 0), (.int .i64 0)] HS ?_
                              intro g_pb w1 hg_pb HS
                              refine ge hK ⟨HS.out.c 3 0 (v := .int .i64 (d : Int)) rfl rfl, HS.out.c 3 1 (v := .int .i64 (n : Int)) rfl rfl, HS.out.c 3 2 (v := .slice A l.length c) rfl rfl, HS.out.str 2 rfl HE1.out, HS.out.str 2 rfl HE2.out⟩ (fun hHeld => ?_)
                              refine run_e rfl (fun K hK => ?_)
                              refine gc Try.func103 (HV.out u _ (HS.out.oldC HR.out)) rfl rfl ?_
                              rintro e_ w1 ⟨rfl, hb⟩
                              refine ⟨_, rfl, ?_⟩
                              replace HS := sB HS hb
                              refine ge hK ⟨HS.out.c 3 0 (v := .int .i64 (d : Int)) rfl rfl, HS.out.c 3 1 (v := .int .i64 (n : Int)) rfl rfl, HS.out.c 3 2 (v := .slice A l.length c) rfl rfl, HS.out.str 2 rfl HE1.out, HS.out.str 2 rfl HE2.out⟩ (fun hHeld => ?_)
                              refine run_e rfl (fun K hK => ?_)
                              refine gc Try.func161 (HM.out _) rfl rfl ?_
                              rintro e_ w1 ⟨rfl, hb⟩
                              refine ⟨_, rfl, ?_⟩
                              replace HS := sB HS hb
                              refine ge hK ⟨HS.out.c 3 0 (v := .int .i64 (d : Int)) rfl rfl, HS.out.c 3 1 (v := .int .i64 (n : Int)) rfl rfl, HS.out.c 3 2 (v := .slice A l.length c) rfl rfl, HS.out.str 2 rfl HE1.out, HS.out.str 2 rfl HE2.out⟩ (fun hHeld => ?_)
                              repeat (first | ((with_reducible refine gate_p ?_); refine rp rfl rfl ?_) | ((with_reducible refine gate_t ?_); refine rt rfl rfl hHeld ?_))
                              refine run_d rfl (fun K hK => ?_)
                              refine st1 HS 0 0 #[.int .i64 f.1, .int .i64 f.2] rfl rfl rfl rfl rfl ?_
                              intro w1 HS
                              refine goD hK rfl ?_
                              repeat (first | ((with_reducible refine gate_p ?_); refine rp rfl rfl ?_) | ((with_reducible refine gate_t ?_); refine rt rfl rfl hHeld ?_))
                              refine run_done ?_
                              have n_ := HS.out.sel [0, 1, 2, 3] (by decide)
                              simp only [List.filterMap_cons, List.filterMap_nil, List.getElem?_cons_zero, List.getElem?_cons_succ] at n_
                              exact ⟨g_pb, rfl, ⟨n_⟩⟩
                          · skip
                            refine run_e rfl (fun K hK => ?_)
                            refine bx1 35 #[(.int .i64 0), (.int .i64 0)] HS ?_
                            intro g_pb w1 hg_pb HS
                            refine ge hK ⟨HS.out.c 3 0 (v := .int .i64 (d : Int)) rfl rfl, HS.out.c 3 1 (v := .int .i64 (n : Int)) rfl rfl, HS.out.c 3 2 (v := .slice A l.length c) rfl rfl, HS.out.str 2 rfl HE1.out, HS.out.str 2 rfl HE2.out⟩ (fun hHeld => ?_)
                            refine run_e rfl (fun K hK => ?_)
                            refine gc Try.func103 (HV.out v _ (HS.out.oldC HR.out)) rfl rfl ?_
                            rintro e_ w1 ⟨rfl, hb⟩
                            refine ⟨_, rfl, ?_⟩
                            replace HS := sB HS hb
                            refine ge hK ⟨HS.out.c 3 0 (v := .int .i64 (d : Int)) rfl rfl, HS.out.c 3 1 (v := .int .i64 (n : Int)) rfl rfl, HS.out.c 3 2 (v := .slice A l.length c) rfl rfl, HS.out.str 2 rfl HE1.out, HS.out.str 2 rfl HE2.out⟩ (fun hHeld => ?_)
                            refine run_e rfl (fun K hK => ?_)
                            refine gc Try.func103 (HV.out u _ (HS.out.oldC HR.out)) rfl rfl ?_
                            rintro e_ w1 ⟨rfl, hb⟩
                            refine ⟨_, rfl, ?_⟩
                            replace HS := sB HS hb
                            refine ge hK ⟨HS.out.c 3 0 (v := .int .i64 (d : Int)) rfl rfl, HS.out.c 3 1 (v := .int .i64 (n : Int)) rfl rfl, HS.out.c 3 2 (v := .slice A l.length c) rfl rfl, HS.out.str 2 rfl HE1.out, HS.out.str 2 rfl HE2.out⟩ (fun hHeld => ?_)
                            refine run_e rfl (fun K hK => ?_)
                            refine gc Try.func161 (HM.out _) rfl rfl ?_
                            rintro e_ w1 ⟨rfl, hb⟩
                            refine ⟨_, rfl, ?_⟩
                            replace HS := sB HS hb
                            refine ge hK ⟨HS.out.c 3 0 (v := .int .i64 (d : Int)) rfl rfl, HS.out.c 3 1 (v := .int .i64 (n : Int)) rfl rfl, HS.out.c 3 2 (v := .slice A l.length c) rfl rfl, HS.out.str 2 rfl HE1.out, HS.out.str 2 rfl HE2.out⟩ (fun hHeld => ?_)
                            repeat (first | ((with_reducible refine gate_p ?_); refine rp rfl rfl ?_) | ((with_reducible refine gate_t ?_); refine rt rfl rfl hHeld ?_))
                            refine run_d rfl (fun K hK => ?_)
                            refine st1 HS 0 0 #[.int .i64 f.1, .int .i64 f.2] rfl rfl rfl rfl rfl ?_
                            intro w1 HS
                            refine goD hK rfl ?_
                            repeat (first | ((with_reducible refine gate_p ?_); refine rp rfl rfl ?_) | ((with_reducible refine gate_t ?_); refine rt rfl rfl hHeld ?_))
                            refine run_done ?_
                            have n_ := HS.out.sel [0, 1, 2, 3] (by decide)
                            simp only [List.filterMap_cons, List.filterMap_nil, List.getElem?_cons_zero, List.getElem?_cons_succ] at n_
                            exact ⟨g_pb, rfl, ⟨n_⟩⟩
                        clear HS
                        rintro a_ w1 ⟨g_pb, rfl, HS⟩
                        have f1_ := HS.out.c 0 0 (v := .int .i64 f.1) rfl rfl
                        have f2_ := HS.out.c 0 1 (v := .int .i64 f.2) rfl rfl
                        go_wp2_with (first | ((with_reducible refine gate_store (t := 35) (p := 10) rfl ?_); refine stL HS 1 0 #[.int .i64 f.1, .int .i64 f.2] rfl rfl rfl rfl rfl ?_; clear HS f1_ f2_; intro w1 HS))
                        replace HS := sD HS
                        apply region_told ((fun (A0_ : Nat → Act) (a' : Act) (w' : World) => ∃ (g_vb : Nat), a' = A0_ g_vb ∧ Aside0 (Mod W w' No [bx g_vb 35 #[.int .i64 e.1, .int .i64 e.2], bx g_pb 35 #[.int .i64 f.1, .int .i64 f.2], bx g_wb 35 #[.int .i64 f.1, .int .i64 f.2], rowS (some ad) b y, bx g_x 24 #[.int .i64 (d : Int), .int .i64 (n : Int), .slice A l.length c]])) _)
                        case h1 =>
                          refine ps (.p 1 (.p 2 (.p 3 (.p 5 (.p 6 (.p 7 (.t 0 (.t 4 (.t 8 (.two 9 13 (.p 10 (.p 11 (.p 12 (.e 13 (.d 14 (.p 15 .done)))))) (.e 9 (.p 10 (.p 11 (.p 12 (.d 14 (.p 15 .done)))))))))))))))) (fun w' => w'.cell? ⟨g_x, 0, none⟩ = some (.int .i64 (d : Int)) ∧ w'.cell? ⟨g_x, 1, none⟩ = some (.int .i64 (n : Int)) ∧ w'.cell? ⟨g_x, 2, none⟩ = some (.slice A l.length c) ∧ w'.cell? (ad.add i) = some (.string v) ∧ w'.cell? (ad.add j) = some (.string u)) [14] ⟨HS.out.c 3 0 (v := .int .i64 (d : Int)) rfl rfl, HS.out.c 3 1 (v := .int .i64 (n : Int)) rfl rfl, HS.out.c 3 2 (v := .slice A l.length c) rfl rfl, HS.out.str 2 rfl HE1.out, HS.out.str 2 rfl HE2.out⟩ (fun hHeld => ?_)
                          repeat (first | ((with_reducible refine gate_p ?_); refine rp rfl rfl ?_) | ((with_reducible refine gate_t ?_); refine rt rfl rfl hHeld ?_))
                          refine run_two ?_ ?_
                          · skip
                            refine run_e rfl (fun K hK => ?_)
                            refine gc Try.func96 (HP.out _ (HS.out.oldC HR.out)) rfl rfl ?_
                            rintro e_ w1 ⟨rfl, hb⟩
                            refine ⟨_, rfl, ?_⟩
                            replace HS := sB HS hb
                            refine ge hK ⟨HS.out.c 3 0 (v := .int .i64 (d : Int)) rfl rfl, HS.out.c 3 1 (v := .int .i64 (n : Int)) rfl rfl, HS.out.c 3 2 (v := .slice A l.length c) rfl rfl, HS.out.str 2 rfl HE1.out, HS.out.str 2 rfl HE2.out⟩ (fun hHeld => ?_)
                            repeat (first | ((with_reducible refine gate_p ?_); refine rp rfl rfl ?_) | ((with_reducible refine gate_t ?_); refine rt rfl rfl hHeld ?_))
                            refine run_e rfl (fun K hK => ?_)
                            refine bx1 35 #[(.int .i64 0), (.int .i64 0)] HS ?_
                            intro g_vb w1 hg_vb HS
                            refine ge hK ⟨HS.out.c 4 0 (v := .int .i64 (d : Int)) rfl rfl, HS.out.c 4 1 (v := .int .i64 (n : Int)) rfl rfl, HS.out.c 4 2 (v := .slice A l.length c) rfl rfl, HS.out.str 3 rfl HE1.out, HS.out.str 3 rfl HE2.out⟩ (fun hHeld => ?_)
                            refine run_d rfl (fun K hK => ?_)
                            refine st1 HS 0 0 #[.int .i64 e.1, .int .i64 e.2] rfl rfl rfl rfl rfl ?_
                            intro w1 HS
                            refine goD hK rfl ?_
                            repeat (first | ((with_reducible refine gate_p ?_); refine rp rfl rfl ?_) | ((with_reducible refine gate_t ?_); refine rt rfl rfl hHeld ?_))
                            refine run_done ?_
                            exact ⟨g_vb, rfl, HS⟩
                          · skip
                            refine run_e rfl (fun K hK => ?_)
                            refine bx1 35 #[(.int .i64 0), (.int .i64 0)] HS ?_
                            intro g_vb w1 hg_vb HS
                            refine ge hK ⟨HS.out.c 4 0 (v := .int .i64 (d : Int)) rfl rfl, HS.out.c 4 1 (v := .int .i64 (n : Int)) rfl rfl, HS.out.c 4 2 (v := .slice A l.length c) rfl rfl, HS.out.str 3 rfl HE1.out, HS.out.str 3 rfl HE2.out⟩ (fun hHeld => ?_)
                            refine run_e rfl (fun K hK => ?_)
                            refine gc Try.func96 (HP.out _ (HS.out.oldC HR.out)) rfl rfl ?_
                            rintro e_ w1 ⟨rfl, hb⟩
                            refine ⟨_, rfl, ?_⟩
                            replace HS := sB HS hb
                            refine ge hK ⟨HS.out.c 4 0 (v := .int .i64 (d : Int)) rfl rfl, HS.out.c 4 1 (v := .int .i64 (n : Int)) rfl rfl, HS.out.c 4 2 (v := .slice A l.length c) rfl rfl, HS.out.str 3 rfl HE1.out, HS.out.str 3 rfl HE2.out⟩ (fun hHeld => ?_)
                            repeat (first | ((with_reducible refine gate_p ?_); refine rp rfl rfl ?_) | ((with_reducible refine gate_t ?_); refine rt rfl rfl hHeld ?_))
                            refine run_d rfl (fun K hK => ?_)
                            refine st1 HS 0 0 #[.int .i64 e.1, .int .i64 e.2] rfl rfl rfl rfl rfl ?_
                            intro w1 HS
                            refine goD hK rfl ?_
                            repeat (first | ((with_reducible refine gate_p ?_); refine rp rfl rfl ?_) | ((with_reducible refine gate_t ?_); refine rt rfl rfl hHeld ?_))
                            refine run_done ?_
                            have n_ := HS.out.sel [0, 1, 2, 3, 4] (by decide)
                            simp only [List.filterMap_cons, List.filterMap_nil, List.getElem?_cons_zero, List.getElem?_cons_succ] at n_
                            exact ⟨g_vb, rfl, ⟨n_⟩⟩
                        clear HS
                        rintro a_ w1 ⟨g_vb, rfl, HS⟩
                        have f1_ := HS.out.c 0 0 (v := .int .i64 e.1) rfl rfl
                        have f2_ := HS.out.c 0 1 (v := .int .i64 e.2) rfl rfl
                        have f3_ := HS.out.c 2 0 (v := .int .i64 f.1) rfl rfl
                        have f4_ := HS.out.c 2 1 (v := .int .i64 f.2) rfl rfl
                        go_wp2
                        replace HS : Aside0 (Mod _ _ _ [_, _]) := sX HS [3, 4]
                        go_roundw
                        case rel => exact ⟨j + 1, by omega, by go_num, HN, HS⟩
                        case measure => simp [intOf]; omega
                      · have he : ¬ e = (f.1, f.2) := fun h => h2 (by rw [h])
                        have HV2 := Aside0.mk (HB2.out (false, 0) (by unfold verdict; rw [HW.out]; show (match atS d l v u with | none => _ | some c => _) = _; rw [← HO.out]; exact if_neg he))
                        have hq2 : (e.2 == f.2) = false := by simpa using h2
                        have hq1 : (e.1 == f.1) = true := by rw [h1]; exact beq_self_eq_true _
                        clear he h1 h2
                        go_wp2
                        replace HS := sD HS
                        refine ps (.p 0 (.p 1 (.p 2 (.p 5 (.p 6 (.p 7 (.p 11 (.t 3 (.p 4 (.t 8 (.p 9 (.p 10 (.t 12 (.p 13 .done)))))))))))))) (fun w' => w'.cell? (ad.add i) = some (.string v) ∧ w'.cell? (ad.add j) = some (.string u) ∧ w'.cell? ⟨g_x, 1, none⟩ = some (.int .i64 (n : Int))) [] ⟨HS.out.str 0 rfl HE1.out, HS.out.str 0 rfl HE2.out, HS.out.c 1 1 (v := .int .i64 (n : Int)) rfl rfl⟩ (fun hHeld => ?_)
                        repeat (first | ((with_reducible refine gate_p ?_); refine rp rfl rfl ?_) | ((with_reducible refine gate_t ?_); refine rt rfl rfl hHeld ?_))
                        refine run_done ?_
                        clear hHeld
                        simp only [i64_w, HZW.out]
                        go_wp2_with (first | ((with_reducible refine gate_dst (N := 10) rfl ?_); refine bxL 35 #[(.int .i64 0), (.int .i64 0)] HS ?_; clear HS; intro g_wb w1 hg_wb HS) | ((with_reducible refine gate_store (t := 35) (p := 10) rfl ?_); refine stL HS 0 0 #[(.int .i64 0), (.int .i64 1)] rfl rfl rfl rfl rfl ?_; clear HS; intro w1 HS))
                        replace HS := sD HS
                        apply region_told ((fun (A0_ : Nat → Act) (a' : Act) (w' : World) => ∃ (g_pb : Nat), a' = A0_ g_pb ∧ Aside0 (Mod W w' No [bx g_pb 35 #[.int .i64 f.1, .int .i64 f.2], bx g_wb 35 #[(.int .i64 0), (.int .i64 1)], rowS (some ad) b y, bx g_x 24 #[.int .i64 (d : Int), .int .i64 (n : Int), .slice A l.length c]])) _)
                        case h1 =>
                          refine ps (.p 1 (.p 2 (.p 3 (.p 7 (.p 8 (.p 9 (.t 0 (.t 4 (.t 6 (.t 10 (.two 5 16 (.two 11 16 (.two 12 16 (.p 13 (.p 14 (.p 15 (.e 16 (.d 17 (.p 18 .done)))))) (.e 12 (.p 13 (.p 14 (.p 15 (.d 17 (.p 18 .done))))))) (.e 11 (.e 12 (.p 13 (.p 14 (.p 15 (.d 17 (.p 18 .done)))))))) (.e 5 (.e 11 (.e 12 (.p 13 (.p 14 (.p 15 (.d 17 (.p 18 .done))))))))))))))))))) (fun w' => w'.cell? ⟨g_x, 0, none⟩ = some (.int .i64 (d : Int)) ∧ w'.cell? ⟨g_x, 1, none⟩ = some (.int .i64 (n : Int)) ∧ w'.cell? ⟨g_x, 2, none⟩ = some (.slice A l.length c) ∧ w'.cell? (ad.add i) = some (.string v) ∧ w'.cell? (ad.add j) = some (.string u)) [17] ⟨HS.out.c 2 0 (v := .int .i64 (d : Int)) rfl rfl, HS.out.c 2 1 (v := .int .i64 (n : Int)) rfl rfl, HS.out.c 2 2 (v := .slice A l.length c) rfl rfl, HS.out.str 1 rfl HE1.out, HS.out.str 1 rfl HE2.out⟩ (fun hHeld => ?_)
                          repeat (first | ((with_reducible refine gate_p ?_); refine rp rfl rfl ?_) | ((with_reducible refine gate_t ?_); refine rt rfl rfl hHeld ?_))
                          refine run_two ?_ ?_
                          · skip
                            refine run_e rfl (fun K hK => ?_)
                            refine gc Try.func103 (HV.out v _ (HS.out.oldC HR.out)) rfl rfl ?_
                            rintro e_ w1 ⟨rfl, hb⟩
                            refine ⟨_, rfl, ?_⟩
                            replace HS := sB HS hb
                            refine ge hK ⟨HS.out.c 2 0 (v := .int .i64 (d : Int)) rfl rfl, HS.out.c 2 1 (v := .int .i64 (n : Int)) rfl rfl, HS.out.c 2 2 (v := .slice A l.length c) rfl rfl, HS.out.str 1 rfl HE1.out, HS.out.str 1 rfl HE2.out⟩ (fun hHeld => ?_)
                            refine run_two ?_ ?_
                            · skip
                              refine run_e rfl (fun K hK => ?_)
                              refine gc Try.func103 (HV.out u _ (HS.out.oldC HR.out)) rfl rfl ?_
                              rintro e_ w1 ⟨rfl, hb⟩
                              refine ⟨_, rfl, ?_⟩
                              replace HS := sB HS hb
                              refine ge hK ⟨HS.out.c 2 0 (v := .int .i64 (d : Int)) rfl rfl, HS.out.c 2 1 (v := .int .i64 (n : Int)) rfl rfl, HS.out.c 2 2 (v := .slice A l.length c) rfl rfl, HS.out.str 1 rfl HE1.out, HS.out.str 1 rfl HE2.out⟩ (fun hHeld => ?_)
                              refine run_two ?_ ?_
                              · skip
                                refine run_e rfl (fun K hK => ?_)
                                refine gc Try.func161 (HM.out _) rfl rfl ?_
                                rintro e_ w1 ⟨rfl, hb⟩
                                refine ⟨_, rfl, ?_⟩
                                replace HS := sB HS hb
                                refine ge hK ⟨HS.out.c 2 0 (v := .int .i64 (d : Int)) rfl rfl, HS.out.c 2 1 (v := .int .i64 (n : Int)) rfl rfl, HS.out.c 2 2 (v := .slice A l.length c) rfl rfl, HS.out.str 1 rfl HE1.out, HS.out.str 1 rfl HE2.out⟩ (fun hHeld => ?_)
                                repeat (first | ((with_reducible refine gate_p ?_); refine rp rfl rfl ?_) | ((with_reducible refine gate_t ?_); refine rt rfl rfl hHeld ?_))
                                refine run_e rfl (fun K hK => ?_)
                                refine bx1 35 #[(.int .i64 0), (.int .i64 0)] HS ?_
                                intro g_pb w1 hg_pb HS
                                refine ge hK ⟨HS.out.c 3 0 (v := .int .i64 (d : Int)) rfl rfl, HS.out.c 3 1 (v := .int .i64 (n : Int)) rfl rfl, HS.out.c 3 2 (v := .slice A l.length c) rfl rfl, HS.out.str 2 rfl HE1.out, HS.out.str 2 rfl HE2.out⟩ (fun hHeld => ?_)
                                refine run_d rfl (fun K hK => ?_)
                                refine st1 HS 0 0 #[.int .i64 f.1, .int .i64 f.2] rfl rfl rfl rfl rfl ?_
                                intro w1 HS
                                refine goD hK rfl ?_
                                repeat (first | ((with_reducible refine gate_p ?_); refine rp rfl rfl ?_) | ((with_reducible refine gate_t ?_); refine rt rfl rfl hHeld ?_))
                                refine run_done ?_
                                exact ⟨g_pb, rfl, HS⟩
                              · skip
                                refine run_e rfl (fun K hK => ?_)
                                refine bx1 35 #[(.int .i64 0), (.int .i64 0)] HS ?_
                                intro g_pb w1 hg_pb HS
                                refine ge hK ⟨HS.out.c 3 0 (v := .int .i64 (d : Int)) rfl rfl, HS.out.c 3 1 (v := .int .i64 (n : Int)) rfl rfl, HS.out.c 3 2 (v := .slice A l.length c) rfl rfl, HS.out.str 2 rfl HE1.out, HS.out.str 2 rfl HE2.out⟩ (fun hHeld => ?_)
                                refine run_e rfl (fun K hK => ?_)
                                refine gc Try.func161 (HM.out _) rfl rfl ?_
                                rintro e_ w1 ⟨rfl, hb⟩
                                refine ⟨_, rfl, ?_⟩
                                replace HS := sB HS hb
                                refine ge hK ⟨HS.out.c 3 0 (v := .int .i64 (d : Int)) rfl rfl, HS.out.c 3 1 (v := .int .i64 (n : Int)) rfl rfl, HS.out.c 3 2 (v := .slice A l.length c) rfl rfl, HS.out.str 2 rfl HE1.out, HS.out.str 2 rfl HE2.out⟩ (fun hHeld => ?_)
                                repeat (first | ((with_reducible refine gate_p ?_); refine rp rfl rfl ?_) | ((with_reducible refine gate_t ?_); refine rt rfl rfl hHeld ?_))
                                refine run_d rfl (fun K hK => ?_)
                                refine st1 HS 0 0 #[.int .i64 f.1, .int .i64 f.2] rfl rfl rfl rfl rfl ?_
                                intro w1 HS
                                refine goD hK rfl ?_
                                repeat (first | ((with_reducible refine gate_p ?_); refine rp rfl rfl ?_) | ((with_reducible refine gate_t ?_); refine rt rfl rfl hHeld ?_))
                                refine run_done ?_
                                have n_ := HS.out.sel [0, 1, 2, 3] (by decide)
                                simp only [List.filterMap_cons, List.filterMap_nil, List.getElem?_cons_zero, List.getElem?_cons_succ] at n_
                                exact ⟨g_pb, rfl, ⟨n_⟩⟩
                            · skip
                              refine run_e rfl (fun K hK => ?_)
                              refine bx1 35 #[(.int .i64 0), (.int .i64 0)] HS ?_
                              intro g_pb w1 hg_pb HS
                              refine ge hK ⟨HS.out.c 3 0 (v := .int .i64 (d : Int)) rfl rfl, HS.out.c 3 1 (v := .int .i64 (n : Int)) rfl rfl, HS.out.c 3 2 (v := .slice A l.length c) rfl rfl, HS.out.str 2 rfl HE1.out, HS.out.str 2 rfl HE2.out⟩ (fun hHeld => ?_)
                              refine run_e rfl (fun K hK => ?_)
                              refine gc Try.func103 (HV.out u _ (HS.out.oldC HR.out)) rfl rfl ?_
                              rintro e_ w1 ⟨rfl, hb⟩
                              refine ⟨_, rfl, ?_⟩
                              replace HS := sB HS hb
                              refine ge hK ⟨HS.out.c 3 0 (v := .int .i64 (d : Int)) rfl rfl, HS.out.c 3 1 (v := .int .i64 (n : Int)) rfl rfl, HS.out.c 3 2 (v := .slice A l.length c) rfl rfl, HS.out.str 2 rfl HE1.out, HS.out.str 2 rfl HE2.out⟩ (fun hHeld => ?_)
                              refine run_e rfl (fun K hK => ?_)
                              refine gc Try.func161 (HM.out _) rfl rfl ?_
                              rintro e_ w1 ⟨rfl, hb⟩
                              refine ⟨_, rfl, ?_⟩
                              replace HS := sB HS hb
                              refine ge hK ⟨HS.out.c 3 0 (v := .int .i64 (d : Int)) rfl rfl, HS.out.c 3 1 (v := .int .i64 (n : Int)) rfl rfl, HS.out.c 3 2 (v := .slice A l.length c) rfl rfl, HS.out.str 2 rfl HE1.out, HS.out.str 2 rfl HE2.out⟩ (fun hHeld => ?_)
                              repeat (first | ((with_reducible refine gate_p ?_); refine rp rfl rfl ?_) | ((with_reducible refine gate_t ?_); refine rt rfl rfl hHeld ?_))
                              refine run_d rfl (fun K hK => ?_)
                              refine st1 HS 0 0 #[.int .i64 f.1, .int .i64 f.2] rfl rfl rfl rfl rfl ?_
                              intro w1 HS
                              refine goD hK rfl ?_
                              repeat (first | ((with_reducible refine gate_p ?_); refine rp rfl rfl ?_) | ((with_reducible refine gate_t ?_); refine rt rfl rfl hHeld ?_))
                              refine run_done ?_
                              have n_ := HS.out.sel [0, 1, 2, 3] (by decide)
                              simp only [List.filterMap_cons, List.filterMap_nil, List.getElem?_cons_zero, List.getElem?_cons_succ] at n_
                              exact ⟨g_pb, rfl, ⟨n_⟩⟩
                          · skip
                            refine run_e rfl (fun K hK => ?_)
                            refine bx1 35 #[(.int .i64 0), (.int .i64 0)] HS ?_
                            intro g_pb w1 hg_pb HS
                            refine ge hK ⟨HS.out.c 3 0 (v := .int .i64 (d : Int)) rfl rfl, HS.out.c 3 1 (v := .int .i64 (n : Int)) rfl rfl, HS.out.c 3 2 (v := .slice A l.length c) rfl rfl, HS.out.str 2 rfl HE1.out, HS.out.str 2 rfl HE2.out⟩ (fun hHeld => ?_)
                            refine run_e rfl (fun K hK => ?_)
                            refine gc Try.func103 (HV.out v _ (HS.out.oldC HR.out)) rfl rfl ?_
                            rintro e_ w1 ⟨rfl, hb⟩
                            refine ⟨_, rfl, ?_⟩
                            replace HS := sB HS hb
                            refine ge hK ⟨HS.out.c 3 0 (v := .int .i64 (d : Int)) rfl rfl, HS.out.c 3 1 (v := .int .i64 (n : Int)) rfl rfl, HS.out.c 3 2 (v := .slice A l.length c) rfl rfl, HS.out.str 2 rfl HE1.out, HS.out.str 2 rfl HE2.out⟩ (fun hHeld => ?_)
                            refine run_e rfl (fun K hK => ?_)
                            refine gc Try.func103 (HV.out u _ (HS.out.oldC HR.out)) rfl rfl ?_
                            rintro e_ w1 ⟨rfl, hb⟩
                            refine ⟨_, rfl, ?_⟩
                            replace HS := sB HS hb
                            refine ge hK ⟨HS.out.c 3 0 (v := .int .i64 (d : Int)) rfl rfl, HS.out.c 3 1 (v := .int .i64 (n : Int)) rfl rfl, HS.out.c 3 2 (v := .slice A l.length c) rfl rfl, HS.out.str 2 rfl HE1.out, HS.out.str 2 rfl HE2.out⟩ (fun hHeld => ?_)
                            refine run_e rfl (fun K hK => ?_)
                            refine gc Try.func161 (HM.out _) rfl rfl ?_
                            rintro e_ w1 ⟨rfl, hb⟩
                            refine ⟨_, rfl, ?_⟩
                            replace HS := sB HS hb
                            refine ge hK ⟨HS.out.c 3 0 (v := .int .i64 (d : Int)) rfl rfl, HS.out.c 3 1 (v := .int .i64 (n : Int)) rfl rfl, HS.out.c 3 2 (v := .slice A l.length c) rfl rfl, HS.out.str 2 rfl HE1.out, HS.out.str 2 rfl HE2.out⟩ (fun hHeld => ?_)
                            repeat (first | ((with_reducible refine gate_p ?_); refine rp rfl rfl ?_) | ((with_reducible refine gate_t ?_); refine rt rfl rfl hHeld ?_))
                            refine run_d rfl (fun K hK => ?_)
                            refine st1 HS 0 0 #[.int .i64 f.1, .int .i64 f.2] rfl rfl rfl rfl rfl ?_
                            intro w1 HS
                            refine goD hK rfl ?_
                            repeat (first | ((with_reducible refine gate_p ?_); refine rp rfl rfl ?_) | ((with_reducible refine gate_t ?_); refine rt rfl rfl hHeld ?_))
                            refine run_done ?_
                            have n_ := HS.out.sel [0, 1, 2, 3] (by decide)
                            simp only [List.filterMap_cons, List.filterMap_nil, List.getElem?_cons_zero, List.getElem?_cons_succ] at n_
                            exact ⟨g_pb, rfl, ⟨n_⟩⟩
                        clear HS
                        rintro a_ w1 ⟨g_pb, rfl, HS⟩
                        have f1_ := HS.out.c 0 0 (v := .int .i64 f.1) rfl rfl
                        have f2_ := HS.out.c 0 1 (v := .int .i64 f.2) rfl rfl
                        go_wp2_with (first | ((with_reducible refine gate_store (t := 35) (p := 10) rfl ?_); refine stL HS 1 0 #[.int .i64 f.1, .int .i64 f.2] rfl rfl rfl rfl rfl ?_; clear HS f1_ f2_; intro w1 HS))
                        replace HS := sD HS
                        apply region_told ((fun (A0_ : Nat → Act) (a' : Act) (w' : World) => ∃ (g_vb : Nat), a' = A0_ g_vb ∧ Aside0 (Mod W w' No [bx g_vb 35 #[.int .i64 e.1, .int .i64 e.2], bx g_pb 35 #[.int .i64 f.1, .int .i64 f.2], bx g_wb 35 #[.int .i64 f.1, .int .i64 f.2], rowS (some ad) b y, bx g_x 24 #[.int .i64 (d : Int), .int .i64 (n : Int), .slice A l.length c]])) _)
                        case h1 =>
                          refine ps (.p 1 (.p 2 (.p 3 (.p 5 (.p 6 (.p 7 (.t 0 (.t 4 (.t 8 (.two 9 13 (.p 10 (.p 11 (.p 12 (.e 13 (.d 14 (.p 15 .done)))))) (.e 9 (.p 10 (.p 11 (.p 12 (.d 14 (.p 15 .done)))))))))))))))) (fun w' => w'.cell? ⟨g_x, 0, none⟩ = some (.int .i64 (d : Int)) ∧ w'.cell? ⟨g_x, 1, none⟩ = some (.int .i64 (n : Int)) ∧ w'.cell? ⟨g_x, 2, none⟩ = some (.slice A l.length c) ∧ w'.cell? (ad.add i) = some (.string v) ∧ w'.cell? (ad.add j) = some (.string u)) [14] ⟨HS.out.c 3 0 (v := .int .i64 (d : Int)) rfl rfl, HS.out.c 3 1 (v := .int .i64 (n : Int)) rfl rfl, HS.out.c 3 2 (v := .slice A l.length c) rfl rfl, HS.out.str 2 rfl HE1.out, HS.out.str 2 rfl HE2.out⟩ (fun hHeld => ?_)
                          repeat (first | ((with_reducible refine gate_p ?_); refine rp rfl rfl ?_) | ((with_reducible refine gate_t ?_); refine rt rfl rfl hHeld ?_))
                          refine run_two ?_ ?_
                          · skip
                            refine run_e rfl (fun K hK => ?_)
                            refine gc Try.func96 (HP.out _ (HS.out.oldC HR.out)) rfl rfl ?_
                            rintro e_ w1 ⟨rfl, hb⟩
                            refine ⟨_, rfl, ?_⟩
                            replace HS := sB HS hb
                            refine ge hK ⟨HS.out.c 3 0 (v := .int .i64 (d : Int)) rfl rfl, HS.out.c 3 1 (v := .int .i64 (n : Int)) rfl rfl, HS.out.c 3 2 (v := .slice A l.length c) rfl rfl, HS.out.str 2 rfl HE1.out, HS.out.str 2 rfl HE2.out⟩ (fun hHeld => ?_)
                            repeat (first | ((with_reducible refine gate_p ?_); refine rp rfl rfl ?_) | ((with_reducible refine gate_t ?_); refine rt rfl rfl hHeld ?_))
                            refine run_e rfl (fun K hK => ?_)
                            refine bx1 35 #[(.int .i64 0), (.int .i64 0)] HS ?_
                            intro g_vb w1 hg_vb HS
                            refine ge hK ⟨HS.out.c 4 0 (v := .int .i64 (d : Int)) rfl rfl, HS.out.c 4 1 (v := .int .i64 (n : Int)) rfl rfl, HS.out.c 4 2 (v := .slice A l.length c) rfl rfl, HS.out.str 3 rfl HE1.out, HS.out.str 3 rfl HE2.out⟩ (fun hHeld => ?_)
                            refine run_d rfl (fun K hK => ?_)
                            refine st1 HS 0 0 #[.int .i64 e.1, .int .i64 e.2] rfl rfl rfl rfl rfl ?_
                            intro w1 HS
                            refine goD hK rfl ?_
                            repeat (first | ((with_reducible refine gate_p ?_); refine rp rfl rfl ?_) | ((with_reducible refine gate_t ?_); refine rt rfl rfl hHeld ?_))
                            refine run_done ?_
                            exact ⟨g_vb, rfl, HS⟩
                          · skip
                            refine run_e rfl (fun K hK => ?_)
                            refine bx1 35 #[(.int .i64 0), (.int .i64 0)] HS ?_
                            intro g_vb w1 hg_vb HS
                            refine ge hK ⟨HS.out.c 4 0 (v := .int .i64 (d : Int)) rfl rfl, HS.out.c 4 1 (v := .int .i64 (n : Int)) rfl rfl, HS.out.c 4 2 (v := .slice A l.length c) rfl rfl, HS.out.str 3 rfl HE1.out, HS.out.str 3 rfl HE2.out⟩ (fun hHeld => ?_)
                            refine run_e rfl (fun K hK => ?_)
                            refine gc Try.func96 (HP.out _ (HS.out.oldC HR.out)) rfl rfl ?_
                            rintro e_ w1 ⟨rfl, hb⟩
                            refine ⟨_, rfl, ?_⟩
                            replace HS := sB HS hb
                            refine ge hK ⟨HS.out.c 4 0 (v := .int .i64 (d : Int)) rfl rfl, HS.out.c 4 1 (v := .int .i64 (n : Int)) rfl rfl, HS.out.c 4 2 (v := .slice A l.length c) rfl rfl, HS.out.str 3 rfl HE1.out, HS.out.str 3 rfl HE2.out⟩ (fun hHeld => ?_)
                            repeat (first | ((with_reducible refine gate_p ?_); refine rp rfl rfl ?_) | ((with_reducible refine gate_t ?_); refine rt rfl rfl hHeld ?_))
                            refine run_d rfl (fun K hK => ?_)
                            refine st1 HS 0 0 #[.int .i64 e.1, .int .i64 e.2] rfl rfl rfl rfl rfl ?_
                            intro w1 HS
                            refine goD hK rfl ?_
                            repeat (first | ((with_reducible refine gate_p ?_); refine rp rfl rfl ?_) | ((with_reducible refine gate_t ?_); refine rt rfl rfl hHeld ?_))
                            refine run_done ?_
                            have n_ := HS.out.sel [0, 1, 2, 3, 4] (by decide)
                            simp only [List.filterMap_cons, List.filterMap_nil, List.getElem?_cons_zero, List.getElem?_cons_succ] at n_
                            exact ⟨g_vb, rfl, ⟨n_⟩⟩
                        clear HS
                        rintro a_ w1 ⟨g_vb, rfl, HS⟩
                        have f1_ := HS.out.c 0 0 (v := .int .i64 e.1) rfl rfl
                        have f2_ := HS.out.c 0 1 (v := .int .i64 e.2) rfl rfl
                        have f3_ := HS.out.c 2 0 (v := .int .i64 f.1) rfl rfl
                        have f4_ := HS.out.c 2 1 (v := .int .i64 f.2) rfl rfl
                        go_wp2
                        go_ret2
                        rw [HV2.out]
                        exact ⟨rfl, HS.out.below⟩
                    · have he : ¬ e = (f.1, f.2) := fun h => h1 (by rw [h])
                      have HV2 := Aside0.mk (HB2.out (false, 0) (by unfold verdict; rw [HW.out]; show (match atS d l v u with | none => _ | some c => _) = _; rw [← HO.out]; exact if_neg he))
                      have hq1 : (e.1 == f.1) = false := by simpa using h1
                      clear he h1
                      go_wp2
                      replace HS := sD HS
                      refine ps (.p 0 (.p 1 (.p 2 (.p 5 (.p 6 (.p 7 (.p 11 (.t 3 (.p 4 (.t 8 (.p 9 (.p 10 (.t 12 (.p 13 .done)))))))))))))) (fun w' => w'.cell? (ad.add i) = some (.string v) ∧ w'.cell? (ad.add j) = some (.string u) ∧ w'.cell? ⟨g_x, 1, none⟩ = some (.int .i64 (n : Int))) [] ⟨HS.out.str 0 rfl HE1.out, HS.out.str 0 rfl HE2.out, HS.out.c 1 1 (v := .int .i64 (n : Int)) rfl rfl⟩ (fun hHeld => ?_)
                      repeat (first | ((with_reducible refine gate_p ?_); refine rp rfl rfl ?_) | ((with_reducible refine gate_t ?_); refine rt rfl rfl hHeld ?_))
                      refine run_done ?_
                      clear hHeld
                      simp only [i64_w, HZW.out]
                      go_wp2_with (first | ((with_reducible refine gate_dst (N := 10) rfl ?_); refine bxL 35 #[(.int .i64 0), (.int .i64 0)] HS ?_; clear HS; intro g_wb w1 hg_wb HS) | ((with_reducible refine gate_store (t := 35) (p := 10) rfl ?_); refine stL HS 0 0 #[(.int .i64 0), (.int .i64 1)] rfl rfl rfl rfl rfl ?_; clear HS; intro w1 HS))
                      replace HS := sD HS
                      apply region_told ((fun (A0_ : Nat → Act) (a' : Act) (w' : World) => ∃ (g_pb : Nat), a' = A0_ g_pb ∧ Aside0 (Mod W w' No [bx g_pb 35 #[.int .i64 f.1, .int .i64 f.2], bx g_wb 35 #[(.int .i64 0), (.int .i64 1)], rowS (some ad) b y, bx g_x 24 #[.int .i64 (d : Int), .int .i64 (n : Int), .slice A l.length c]])) _)
                      case h1 =>
                        refine ps (.p 1 (.p 2 (.p 3 (.p 7 (.p 8 (.p 9 (.t 0 (.t 4 (.t 6 (.t 10 (.two 5 16 (.two 11 16 (.two 12 16 (.p 13 (.p 14 (.p 15 (.e 16 (.d 17 (.p 18 .done)))))) (.e 12 (.p 13 (.p 14 (.p 15 (.d 17 (.p 18 .done))))))) (.e 11 (.e 12 (.p 13 (.p 14 (.p 15 (.d 17 (.p 18 .done)))))))) (.e 5 (.e 11 (.e 12 (.p 13 (.p 14 (.p 15 (.d 17 (.p 18 .done))))))))))))))))))) (fun w' => w'.cell? ⟨g_x, 0, none⟩ = some (.int .i64 (d : Int)) ∧ w'.cell? ⟨g_x, 1, none⟩ = some (.int .i64 (n : Int)) ∧ w'.cell? ⟨g_x, 2, none⟩ = some (.slice A l.length c) ∧ w'.cell? (ad.add i) = some (.string v) ∧ w'.cell? (ad.add j) = some (.string u)) [17] ⟨HS.out.c 2 0 (v := .int .i64 (d : Int)) rfl rfl, HS.out.c 2 1 (v := .int .i64 (n : Int)) rfl rfl, HS.out.c 2 2 (v := .slice A l.length c) rfl rfl, HS.out.str 1 rfl HE1.out, HS.out.str 1 rfl HE2.out⟩ (fun hHeld => ?_)
                        repeat (first | ((with_reducible refine gate_p ?_); refine rp rfl rfl ?_) | ((with_reducible refine gate_t ?_); refine rt rfl rfl hHeld ?_))
                        refine run_two ?_ ?_
                        · skip
                          refine run_e rfl (fun K hK => ?_)
                          refine gc Try.func103 (HV.out v _ (HS.out.oldC HR.out)) rfl rfl ?_
                          rintro e_ w1 ⟨rfl, hb⟩
                          refine ⟨_, rfl, ?_⟩
                          replace HS := sB HS hb
                          refine ge hK ⟨HS.out.c 2 0 (v := .int .i64 (d : Int)) rfl rfl, HS.out.c 2 1 (v := .int .i64 (n : Int)) rfl rfl, HS.out.c 2 2 (v := .slice A l.length c) rfl rfl, HS.out.str 1 rfl HE1.out, HS.out.str 1 rfl HE2.out⟩ (fun hHeld => ?_)
                          refine run_two ?_ ?_
                          · skip
                            refine run_e rfl (fun K hK => ?_)
                            refine gc Try.func103 (HV.out u _ (HS.out.oldC HR.out)) rfl rfl ?_
                            rintro e_ w1 ⟨rfl, hb⟩
                            refine ⟨_, rfl, ?_⟩
                            replace HS := sB HS hb
                            refine ge hK ⟨HS.out.c 2 0 (v := .int .i64 (d : Int)) rfl rfl, HS.out.c 2 1 (v := .int .i64 (n : Int)) rfl rfl, HS.out.c 2 2 (v := .slice A l.length c) rfl rfl, HS.out.str 1 rfl HE1.out, HS.out.str 1 rfl HE2.out⟩ (fun hHeld => ?_)
                            refine run_two ?_ ?_
                            · skip
                              refine run_e rfl (fun K hK => ?_)
                              refine gc Try.func161 (HM.out _) rfl rfl ?_
                              rintro e_ w1 ⟨rfl, hb⟩
                              refine ⟨_, rfl, ?_⟩
                              replace HS := sB HS hb
                              refine ge hK ⟨HS.out.c 2 0 (v := .int .i64 (d : Int)) rfl rfl, HS.out.c 2 1 (v := .int .i64 (n : Int)) rfl rfl, HS.out.c 2 2 (v := .slice A l.length c) rfl rfl, HS.out.str 1 rfl HE1.out, HS.out.str 1 rfl HE2.out⟩ (fun hHeld => ?_)
                              repeat (first | ((with_reducible refine gate_p ?_); refine rp rfl rfl ?_) | ((with_reducible refine gate_t ?_); refine rt rfl rfl hHeld ?_))
                              refine run_e rfl (fun K hK => ?_)
                              refine bx1 35 #[(.int .i64 0), (.int .i64 0)] HS ?_
                              intro g_pb w1 hg_pb HS
                              refine ge hK ⟨HS.out.c 3 0 (v := .int .i64 (d : Int)) rfl rfl, HS.out.c 3 1 (v := .int .i64 (n : Int)) rfl rfl, HS.out.c 3 2 (v := .slice A l.length c) rfl rfl, HS.out.str 2 rfl HE1.out, HS.out.str 2 rfl HE2.out⟩ (fun hHeld => ?_)
                              refine run_d rfl (fun K hK => ?_)
                              refine st1 HS 0 0 #[.int .i64 f.1, .int .i64 f.2] rfl rfl rfl rfl rfl ?_
                              intro w1 HS
                              refine goD hK rfl ?_
                              repeat (first | ((with_reducible refine gate_p ?_); refine rp rfl rfl ?_) | ((with_reducible refine gate_t ?_); refine rt rfl rfl hHeld ?_))
                              refine run_done ?_
                              exact ⟨g_pb, rfl, HS⟩
                            · skip
                              refine run_e rfl (fun K hK => ?_)
                              refine bx1 35 #[(.int .i64 0), (.int .i64 0)] HS ?_
                              intro g_pb w1 hg_pb HS
                              refine ge hK ⟨HS.out.c 3 0 (v := .int .i64 (d : Int)) rfl rfl, HS.out.c 3 1 (v := .int .i64 (n : Int)) rfl rfl, HS.out.c 3 2 (v := .slice A l.length c) rfl rfl, HS.out.str 2 rfl HE1.out, HS.out.str 2 rfl HE2.out⟩ (fun hHeld => ?_)
                              refine run_e rfl (fun K hK => ?_)
                              refine gc Try.func161 (HM.out _) rfl rfl ?_
                              rintro e_ w1 ⟨rfl, hb⟩
                              refine ⟨_, rfl, ?_⟩
                              replace HS := sB HS hb
                              refine ge hK ⟨HS.out.c 3 0 (v := .int .i64 (d : Int)) rfl rfl, HS.out.c 3 1 (v := .int .i64 (n : Int)) rfl rfl, HS.out.c 3 2 (v := .slice A l.length c) rfl rfl, HS.out.str 2 rfl HE1.out, HS.out.str 2 rfl HE2.out⟩ (fun hHeld => ?_)
                              repeat (first | ((with_reducible refine gate_p ?_); refine rp rfl rfl ?_) | ((with_reducible refine gate_t ?_); refine rt rfl rfl hHeld ?_))
                              refine run_d rfl (fun K hK => ?_)
                              refine st1 HS 0 0 #[.int .i64 f.1, .int .i64 f.2] rfl rfl rfl rfl rfl ?_
                              intro w1 HS
                              refine goD hK rfl ?_
                              repeat (first | ((with_reducible refine gate_p ?_); refine rp rfl rfl ?_) | ((with_reducible refine gate_t ?_); refine rt rfl rfl hHeld ?_))
                              refine run_done ?_
                              have n_ := HS.out.sel [0, 1, 2, 3] (by decide)
                              simp only [List.filterMap_cons, List.filterMap_nil, List.getElem?_cons_zero, List.getElem?_cons_succ] at n_
                              exact ⟨g_pb, rfl, ⟨n_⟩⟩
                          · skip
                            refine run_e rfl (fun K hK => ?_)
                            refine bx1 35 #[(.int .i64 0), (.int .i64 0)] HS ?_
                            intro g_pb w1 hg_pb HS
                            refine ge hK ⟨HS.out.c 3 0 (v := .int .i64 (d : Int)) rfl rfl, HS.out.c 3 1 (v := .int .i64 (n : Int)) rfl rfl, HS.out.c 3 2 (v := .slice A l.length c) rfl rfl, HS.out.str 2 rfl HE1.out, HS.out.str 2 rfl HE2.out⟩ (fun hHeld => ?_)
                            refine run_e rfl (fun K hK => ?_)
                            refine gc Try.func103 (HV.out u _ (HS.out.oldC HR.out)) rfl rfl ?_
                            rintro e_ w1 ⟨rfl, hb⟩
                            refine ⟨_, rfl, ?_⟩
                            replace HS := sB HS hb
                            refine ge hK ⟨HS.out.c 3 0 (v := .int .i64 (d : Int)) rfl rfl, HS.out.c 3 1 (v := .int .i64 (n : Int)) rfl rfl, HS.out.c 3 2 (v := .slice A l.length c) rfl rfl, HS.out.str 2 rfl HE1.out, HS.out.str 2 rfl HE2.out⟩ (fun hHeld => ?_)
                            refine run_e rfl (fun K hK => ?_)
                            refine gc Try.func161 (HM.out _) rfl rfl ?_
                            rintro e_ w1 ⟨rfl, hb⟩
                            refine ⟨_, rfl, ?_⟩
                            replace HS := sB HS hb
                            refine ge hK ⟨HS.out.c 3 0 (v := .int .i64 (d : Int)) rfl rfl, HS.out.c 3 1 (v := .int .i64 (n : Int)) rfl rfl, HS.out.c 3 2 (v := .slice A l.length c) rfl rfl, HS.out.str 2 rfl HE1.out, HS.out.str 2 rfl HE2.out⟩ (fun hHeld => ?_)
                            repeat (first | ((with_reducible refine gate_p ?_); refine rp rfl rfl ?_) | ((with_reducible refine gate_t ?_); refine rt rfl rfl hHeld ?_))
                            refine run_d rfl (fun K hK => ?_)
                            refine st1 HS 0 0 #[.int .i64 f.1, .int .i64 f.2] rfl rfl rfl rfl rfl ?_
                            intro w1 HS
                            refine goD hK rfl ?_
                            repeat (first | ((with_reducible refine gate_p ?_); refine rp rfl rfl ?_) | ((with_reducible refine gate_t ?_); refine rt rfl rfl hHeld ?_))
                            refine run_done ?_
                            have n_ := HS.out.sel [0, 1, 2, 3] (by decide)
                            simp only [List.filterMap_cons, List.filterMap_nil, List.getElem?_cons_zero, List.getElem?_cons_succ] at n_
                            exact ⟨g_pb, rfl, ⟨n_⟩⟩
                        · skip
                          refine run_e rfl (fun K hK => ?_)
                          refine bx1 35 #[(.int .i64 0), (.int .i64 0)] HS ?_
                          intro g_pb w1 hg_pb HS
                          refine ge hK ⟨HS.out.c 3 0 (v := .int .i64 (d : Int)) rfl rfl, HS.out.c 3 1 (v := .int .i64 (n : Int)) rfl rfl, HS.out.c 3 2 (v := .slice A l.length c) rfl rfl, HS.out.str 2 rfl HE1.out, HS.out.str 2 rfl HE2.out⟩ (fun hHeld => ?_)
                          refine run_e rfl (fun K hK => ?_)
                          refine gc Try.func103 (HV.out v _ (HS.out.oldC HR.out)) rfl rfl ?_
                          rintro e_ w1 ⟨rfl, hb⟩
                          refine ⟨_, rfl, ?_⟩
                          replace HS := sB HS hb
                          refine ge hK ⟨HS.out.c 3 0 (v := .int .i64 (d : Int)) rfl rfl, HS.out.c 3 1 (v := .int .i64 (n : Int)) rfl rfl, HS.out.c 3 2 (v := .slice A l.length c) rfl rfl, HS.out.str 2 rfl HE1.out, HS.out.str 2 rfl HE2.out⟩ (fun hHeld => ?_)
                          refine run_e rfl (fun K hK => ?_)
                          refine gc Try.func103 (HV.out u _ (HS.out.oldC HR.out)) rfl rfl ?_
                          rintro e_ w1 ⟨rfl, hb⟩
                          refine ⟨_, rfl, ?_⟩
                          replace HS := sB HS hb
                          refine ge hK ⟨HS.out.c 3 0 (v := .int .i64 (d : Int)) rfl rfl, HS.out.c 3 1 (v := .int .i64 (n : Int)) rfl rfl, HS.out.c 3 2 (v := .slice A l.length c) rfl rfl, HS.out.str 2 rfl HE1.out, HS.out.str 2 rfl HE2.out⟩ (fun hHeld => ?_)
                          refine run_e rfl (fun K hK => ?_)
                          refine gc Try.func161 (HM.out _) rfl rfl ?_
                          rintro e_ w1 ⟨rfl, hb⟩
                          refine ⟨_, rfl, ?_⟩
                          replace HS := sB HS hb
                          refine ge hK ⟨HS.out.c 3 0 (v := .int .i64 (d : Int)) rfl rfl, HS.out.c 3 1 (v := .int .i64 (n : Int)) rfl rfl, HS.out.c 3 2 (v := .slice A l.length c) rfl rfl, HS.out.str 2 rfl HE1.out, HS.out.str 2 rfl HE2.out⟩ (fun hHeld => ?_)
                          repeat (first | ((with_reducible refine gate_p ?_); refine rp rfl rfl ?_) | ((with_reducible refine gate_t ?_); refine rt rfl rfl hHeld ?_))
                          refine run_d rfl (fun K hK => ?_)
                          refine st1 HS 0 0 #[.int .i64 f.1, .int .i64 f.2] rfl rfl rfl rfl rfl ?_
                          intro w1 HS
                          refine goD hK rfl ?_
                          repeat (first | ((with_reducible refine gate_p ?_); refine rp rfl rfl ?_) | ((with_reducible refine gate_t ?_); refine rt rfl rfl hHeld ?_))
                          refine run_done ?_
                          have n_ := HS.out.sel [0, 1, 2, 3] (by decide)
                          simp only [List.filterMap_cons, List.filterMap_nil, List.getElem?_cons_zero, List.getElem?_cons_succ] at n_
                          exact ⟨g_pb, rfl, ⟨n_⟩⟩
                      clear HS
                      rintro a_ w1 ⟨g_pb, rfl, HS⟩
                      have f1_ := HS.out.c 0 0 (v := .int .i64 f.1) rfl rfl
                      have f2_ := HS.out.c 0 1 (v := .int .i64 f.2) rfl rfl
                      go_wp2_with (first | ((with_reducible refine gate_store (t := 35) (p := 10) rfl ?_); refine stL HS 1 0 #[.int .i64 f.1, .int .i64 f.2] rfl rfl rfl rfl rfl ?_; clear HS f1_ f2_; intro w1 HS))
                      replace HS := sD HS
                      apply region_told ((fun (A0_ : Nat → Act) (a' : Act) (w' : World) => ∃ (g_vb : Nat), a' = A0_ g_vb ∧ Aside0 (Mod W w' No [bx g_vb 35 #[.int .i64 e.1, .int .i64 e.2], bx g_pb 35 #[.int .i64 f.1, .int .i64 f.2], bx g_wb 35 #[.int .i64 f.1, .int .i64 f.2], rowS (some ad) b y, bx g_x 24 #[.int .i64 (d : Int), .int .i64 (n : Int), .slice A l.length c]])) _)
                      case h1 =>
                        refine ps (.p 1 (.p 2 (.p 3 (.p 5 (.p 6 (.p 7 (.t 0 (.t 4 (.t 8 (.two 9 13 (.p 10 (.p 11 (.p 12 (.e 13 (.d 14 (.p 15 .done)))))) (.e 9 (.p 10 (.p 11 (.p 12 (.d 14 (.p 15 .done)))))))))))))))) (fun w' => w'.cell? ⟨g_x, 0, none⟩ = some (.int .i64 (d : Int)) ∧ w'.cell? ⟨g_x, 1, none⟩ = some (.int .i64 (n : Int)) ∧ w'.cell? ⟨g_x, 2, none⟩ = some (.slice A l.length c) ∧ w'.cell? (ad.add i) = some (.string v) ∧ w'.cell? (ad.add j) = some (.string u)) [14] ⟨HS.out.c 3 0 (v := .int .i64 (d : Int)) rfl rfl, HS.out.c 3 1 (v := .int .i64 (n : Int)) rfl rfl, HS.out.c 3 2 (v := .slice A l.length c) rfl rfl, HS.out.str 2 rfl HE1.out, HS.out.str 2 rfl HE2.out⟩ (fun hHeld => ?_)
                        repeat (first | ((with_reducible refine gate_p ?_); refine rp rfl rfl ?_) | ((with_reducible refine gate_t ?_); refine rt rfl rfl hHeld ?_))
                        refine run_two ?_ ?_
                        · skip
                          refine run_e rfl (fun K hK => ?_)
                          refine gc Try.func96 (HP.out _ (HS.out.oldC HR.out)) rfl rfl ?_
                          rintro e_ w1 ⟨rfl, hb⟩
                          refine ⟨_, rfl, ?_⟩
                          replace HS := sB HS hb
                          refine ge hK ⟨HS.out.c 3 0 (v := .int .i64 (d : Int)) rfl rfl, HS.out.c 3 1 (v := .int .i64 (n : Int)) rfl rfl, HS.out.c 3 2 (v := .slice A l.length c) rfl rfl, HS.out.str 2 rfl HE1.out, HS.out.str 2 rfl HE2.out⟩ (fun hHeld => ?_)
                          repeat (first | ((with_reducible refine gate_p ?_); refine rp rfl rfl ?_) | ((with_reducible refine gate_t ?_); refine rt rfl rfl hHeld ?_))
                          refine run_e rfl (fun K hK => ?_)
                          refine bx1 35 #[(.int .i64 0), (.int .i64 0)] HS ?_
                          intro g_vb w1 hg_vb HS
                          refine ge hK ⟨HS.out.c 4 0 (v := .int .i64 (d : Int)) rfl rfl, HS.out.c 4 1 (v := .int .i64 (n : Int)) rfl rfl, HS.out.c 4 2 (v := .slice A l.length c) rfl rfl, HS.out.str 3 rfl HE1.out, HS.out.str 3 rfl HE2.out⟩ (fun hHeld => ?_)
                          refine run_d rfl (fun K hK => ?_)
                          refine st1 HS 0 0 #[.int .i64 e.1, .int .i64 e.2] rfl rfl rfl rfl rfl ?_
                          intro w1 HS
                          refine goD hK rfl ?_
                          repeat (first | ((with_reducible refine gate_p ?_); refine rp rfl rfl ?_) | ((with_reducible refine gate_t ?_); refine rt rfl rfl hHeld ?_))
                          refine run_done ?_
                          exact ⟨g_vb, rfl, HS⟩
                        · skip
                          refine run_e rfl (fun K hK => ?_)
                          refine bx1 35 #[(.int .i64 0), (.int .i64 0)] HS ?_
                          intro g_vb w1 hg_vb HS
                          refine ge hK ⟨HS.out.c 4 0 (v := .int .i64 (d : Int)) rfl rfl, HS.out.c 4 1 (v := .int .i64 (n : Int)) rfl rfl, HS.out.c 4 2 (v := .slice A l.length c) rfl rfl, HS.out.str 3 rfl HE1.out, HS.out.str 3 rfl HE2.out⟩ (fun hHeld => ?_)
                          refine run_e rfl (fun K hK => ?_)
                          refine gc Try.func96 (HP.out _ (HS.out.oldC HR.out)) rfl rfl ?_
                          rintro e_ w1 ⟨rfl, hb⟩
                          refine ⟨_, rfl, ?_⟩
                          replace HS := sB HS hb
                          refine ge hK ⟨HS.out.c 4 0 (v := .int .i64 (d : Int)) rfl rfl, HS.out.c 4 1 (v := .int .i64 (n : Int)) rfl rfl, HS.out.c 4 2 (v := .slice A l.length c) rfl rfl, HS.out.str 3 rfl HE1.out, HS.out.str 3 rfl HE2.out⟩ (fun hHeld => ?_)
                          repeat (first | ((with_reducible refine gate_p ?_); refine rp rfl rfl ?_) | ((with_reducible refine gate_t ?_); refine rt rfl rfl hHeld ?_))
                          refine run_d rfl (fun K hK => ?_)
                          refine st1 HS 0 0 #[.int .i64 e.1, .int .i64 e.2] rfl rfl rfl rfl rfl ?_
                          intro w1 HS
                          refine goD hK rfl ?_
                          repeat (first | ((with_reducible refine gate_p ?_); refine rp rfl rfl ?_) | ((with_reducible refine gate_t ?_); refine rt rfl rfl hHeld ?_))
                          refine run_done ?_
                          have n_ := HS.out.sel [0, 1, 2, 3, 4] (by decide)
                          simp only [List.filterMap_cons, List.filterMap_nil, List.getElem?_cons_zero, List.getElem?_cons_succ] at n_
                          exact ⟨g_vb, rfl, ⟨n_⟩⟩
                      clear HS
                      rintro a_ w1 ⟨g_vb, rfl, HS⟩
                      have f1_ := HS.out.c 0 0 (v := .int .i64 e.1) rfl rfl
                      have f2_ := HS.out.c 0 1 (v := .int .i64 e.2) rfl rfl
                      have f3_ := HS.out.c 2 0 (v := .int .i64 f.1) rfl rfl
                      have f4_ := HS.out.c 2 1 (v := .int .i64 f.2) rfl rfl
                      go_wp2
                      go_ret2
                      rw [HV2.out]
                      exact ⟨rfl, HS.out.below⟩
              · have hlb : ((n : Int) < (v.size : Int) + (u.size : Int)) := by omega
                have HN := Aside0.mk (HNJ.out (fun h => absurd h hlong))
                clear HNJ HBJ
                go_wp2
                replace HS := sD HS
                refine ps (.p 0 (.p 1 (.p 2 (.p 5 (.p 6 (.p 7 (.p 11 (.t 3 (.p 4 (.t 8 (.p 9 (.p 10 (.t 12 (.p 13 .done)))))))))))))) (fun w' => w'.cell? (ad.add i) = some (.string v) ∧ w'.cell? (ad.add j) = some (.string u) ∧ w'.cell? ⟨g_x, 1, none⟩ = some (.int .i64 (n : Int))) [] ⟨HS.out.str 0 rfl HE1.out, HS.out.str 0 rfl HE2.out, HS.out.c 1 1 (v := .int .i64 (n : Int)) rfl rfl⟩ (fun hHeld => ?_)
                repeat (first | ((with_reducible refine gate_p ?_); refine rp rfl rfl ?_) | ((with_reducible refine gate_t ?_); refine rt rfl rfl hHeld ?_))
                refine run_done ?_
                clear hHeld
                simp only [i64_w, HZW.out]
                go_wp2
                go_roundw
                case rel => exact ⟨j + 1, by omega, by go_num, HN, HS⟩
                case measure => simp [intOf]; omega
            · obtain rfl : j = y.length := by omega
              have HN := Aside0.mk (HNI.out (by have h := HJ.out; rw [List.take_length] at h; exact h))
              go_wp2
              go_roundw
              case rel => exact ⟨i + 1, by omega, by go_num, HN, HS⟩
              case measure => simp [intOf]; omega
        · obtain rfl : i = y.length := by omega
          have HE := Aside0.mk (show holdQ d n true l = (true, 0) by rw [HOUT.out]; have h := HI.out; rw [List.take_length] at h; rw [h]; rfl)
          go_wp2
          go_ret2
          rw [HE.out]
          exact ⟨rfl, HS.out.below⟩
end Go.Proofs.Ytaheikponfmdiaa.H


