/- Plain facts and contracts of functions that the law's walk uses. Conditions: those that stand in each statement. -/
import Derived.Test.YtibjkjhpfmmjoaaSpG1
import Derived.Test.YtibjkjhpfmmjoaaSpG3
import Derived.Test.YtibjkjhpfmmjoaaSpG5
import Derived.Test.YtibjkjhpfmmjoaaSpG4
namespace Go.Proofs.Ytibjkjhpfmmjoaa.H
open Go.RowKit Go.Proofs.YtibjkjhpfmmjoaaW.PrintWords Go.Proofs.YtibjkjhpfmmjoaaW.PrintLast Go.Proofs.YtibjkjhpfmmjoaaW.PrintMore Go.Proofs.Ytibjkjhpfmmjoaa.M
attribute [local go_sem] max2_int min2_int max_two min_two max_three min_three max_four min_four
set_option linter.unusedVariables false
set_option linter.unusedSimpArgs false
set_option maxRecDepth 100000
theorem Mod.str {w W : World} {S : Nat → Prop} {L : List As} (h : Mod w W S L) (i : Nat) {ad : Addr} {c : Nat} {u : List ByteArray} (hi : L[i]? = some (rowS (some ad) c u)) {j : Nat} {s : ByteArray} (hj : u[j]? = some s) : W.cell? (ad.add j) = some (.string s) := by
  obtain ⟨h1, h2⟩ := List.getElem?_eq_some_iff.1 hj
  obtain ⟨ad', e, h0⟩ := str_at (h.reads i hi) j h1
  cases e
  rwa [List.getD_eq_getElem?_getD, hj] at h0
set_option maxHeartbeats 16000000 in
theorem specTimes2 (d n : Nat) (hd : d ≤ 3) (hn : n ≤ 5) (A : Option Addr) (c : Nat) (l : Ts) (A2 : Option Addr) (cc : Nat) (l2 : Ts) (w : World) (hr : KT.C w A l.length l) (hc : l.length ≤ c) (hr2 : KT.C w A2 l2.length l2) (hcc : l2.length ≤ cc) (hx : isTs d n l = true) (hy : isTs d n l2 = true) :
    Calls Try.prog 71 #[.agg #[.int .i64 (d : Int), .int .i64 (n : Int), .slice A l.length c], .agg #[.int .i64 (d : Int), .int .i64 (n : Int), .slice A2 l2.length cc]] w (RetQ w (resQ d n (mulS d n l l2))) := by
  have hd9 : d ≤ 9 := by omega
  have HR := Aside0.mk hr
  have HR2 := Aside0.mk hr2
  have HF := Aside0.mk (fun u => co_fr hx u)
  have HG := Aside0.mk (fun u => co_fr hy u)
  have hll := (bnd_iff.1 (isTs_bnd hd hn hx)).1
  have hll2 := (bnd_iff.1 (isTs_bnd hd hn hy)).1
  have HTS := Aside0.mk (fun {z : Ts} (m i : Nat) (s : ByteArray) (h : m ≤ n) (hs : (wordsN d m)[i]? = some s) (hz : putsS [] (timesU (co l) (co l2) (allU d m ++ (wordsN d m).take i)) = some z) => times_bef hd9 hs hz)
  have HS := Aside0.mk (Sep.refl w)
  clear hr hr2 hx hy
  unfold mulS
  go_enter Try.func71, Try.ntmps71
  go_wp2_with (first | ((with_reducible refine gate_dst (N := 2) rfl ?_); refine bxL 26 #[.int .i64 (d : Int), .int .i64 (n : Int), .slice A l.length c] HS ?_; clear HS; intro g_p w1 hg_p HS) | ((with_reducible refine gate_dst (N := 3) rfl ?_); refine bxL 26 #[.int .i64 (d : Int), .int .i64 (n : Int), .slice A2 l2.length cc] HS ?_; clear HS; intro g_a w1 hg_a HS) | ((with_reducible refine gate_dst (N := 4) rfl ?_); refine bxL 26 #[(.int .i64 0), (.int .i64 0), (.slice none 0 0)] HS ?_; clear HS; intro g_r w1 hg_r HS; have f1_ := HS.out.c 2 0 (v := .int .i64 (d : Int)) rfl rfl; have f2_ := HS.out.c 2 1 (v := .int .i64 (n : Int)) rfl rfl; have f3_ := HS.out.c 2 2 (v := .slice A l.length c) rfl rfl) | (go_at_call 62; refine (specEmpty d n A l.length c _).mono ?_; rintro e_ w1 ⟨B, b, rfl, hs⟩; replace HS := sN1 HS hs; clear hs f1_ f2_ f3_) | ((with_reducible refine gate_dst (N := 6) rfl ?_); refine bxL 26 #[(.int .i64 0), (.int .i64 0), (.slice none 0 0)] HS ?_; clear HS; intro g_q w1 hg_q HS) | ((with_reducible refine gate_store (t := 26) (p := 6) rfl ?_); refine stL HS 0 0 #[.int .i64 (d : Int), .int .i64 (n : Int), .slice B ([] : Ts).length b] rfl rfl rfl rfl rfl ?_; clear HS; intro w1 HS))
  go_loopw [7] (fun v w' => ∃ (m : Nat) (B : Option Addr) (b : Nat) (z : Ts), m ≤ n + 1 ∧ v = .int .i64 (m : Int) ∧ z.length ≤ 10000 * m ∧ Aside0 (putsS [] (timesU (co l) (co l2) (allU d m)) = some z) ∧ Aside0 (Mod w w' No [bx g_q 26 #[.int .i64 (d : Int), .int .i64 (n : Int), .slice B z.length b], rowT B b z, bx g_r 26 #[(.int .i64 0), (.int .i64 0), (.slice none 0 0)], bx g_a 26 #[.int .i64 (d : Int), .int .i64 (n : Int), .slice A2 l2.length cc], bx g_p 26 #[.int .i64 (d : Int), .int .i64 (n : Int), .slice A l.length c]])) (fun v _ => n + 1 - (intOf v).toNat)
  case atStart => exact ⟨0, B, b, [], by omega, rfl, by simp, ⟨rfl⟩, HS⟩
  case round =>
    clear HS
    obtain ⟨m, B, b, z, hm, rfl, hzm, HZ, HS⟩ := hrel
    by_cases hlt : m ≤ n
    · have HWD := Aside0.mk (fun W => specWordsS d m W hd (by omega))
      have hul := wordsN_le (d := d) (n := m) hd (by omega)
      obtain ⟨u, hu⟩ : ∃ u, u = wordsN d m := ⟨_, rfl⟩
      rw [← hu] at HWD hul
      have HU := Aside0.mk hu
      clear hu
      have f1_ := HS.out.c 4 1 (v := .int .i64 (n : Int)) rfl rfl
      have f2_ := HS.out.c 4 0 (v := .int .i64 (d : Int)) rfl rfl
      go_wp2_with (first | (go_at_call 118; refine (HWD.out _).mono ?_; rintro e_ w1 ⟨B1, b1, rfl, hs⟩; replace HS := sN1 HS hs; clear hs f1_ f2_))
      go_loopw [9] (fun v w' => ∃ (i : Nat) (B : Option Addr) (b : Nat) (z : Ts), i ≤ u.length ∧ v = .int .i64 (i : Int) ∧ z.length ≤ 10000 * m + i ∧ Aside0 (putsS [] (timesU (co l) (co l2) (allU d m ++ (wordsN d m).take i)) = some z) ∧ Aside0 (Mod w w' No [rowS B1 b1 u, bx g_q 26 #[.int .i64 (d : Int), .int .i64 (n : Int), .slice B z.length b], rowT B b z, bx g_r 26 #[(.int .i64 0), (.int .i64 0), (.slice none 0 0)], bx g_a 26 #[.int .i64 (d : Int), .int .i64 (n : Int), .slice A2 l2.length cc], bx g_p 26 #[.int .i64 (d : Int), .int .i64 (n : Int), .slice A l.length c]])) (fun v _ => u.length - (intOf v).toNat)
      case atStart => exact ⟨0, B, b, z, by omega, rfl, by omega, ⟨by rw [List.take_zero, List.append_nil]; exact HZ.out⟩, HS⟩
      case round =>
        clear HS HZ hzm
        obtain ⟨i, B, b, z, hi, rfl, hzm, HZ, HS⟩ := hrel
        by_cases hil : i < u.length
        · obtain ⟨ad, ea, _⟩ := str_at (HS.out.reads 0 rfl) i hil
          cases ea
          obtain ⟨s, hs⟩ : ∃ s, u[i]? = some s := ⟨_, List.getElem?_eq_getElem hil⟩
          have HE := Aside0.mk hs
          rw [HU.out] at hs
          have HW := Aside0.mk hs
          obtain ⟨hsm, hsw⟩ := word_at hd9 hs
          have HSW := Aside0.mk hsw
          have HBF := Aside0.mk (HTS.out m i s hlt hs HZ.out)
          have hs5 : s.size ≤ 5 := by omega
          clear hs hsw hsm
          go_wp2_with (first | (go_at_call 119; refine (specOne 0 _).mono ?_; rintro e_ w1 ⟨rfl, hb⟩; replace HS := sB HS hb; clear hb) | ((with_reducible refine gate_dst (N := 10) rfl ?_); refine bxL 34 #[(.int .i64 0), (.int .i64 0)] HS ?_; clear HS; intro g_sm w1 hg_sm HS) | ((with_reducible refine gate_store (t := 34) (p := 10) rfl ?_); refine stL HS 0 0 #[.int .i64 0, .int .i64 1] rfl rfl rfl rfl rfl ?_; clear HS; intro w1 HS))
          go_loopw [11] (fun v w' => ∃ (k : Nat) (e : Fr), k ≤ s.size + 1 ∧ v = .int .i64 (k : Int) ∧ Aside0 (putsS [] (timesU (co l) (co l2) (allU d m ++ (wordsN d m).take i) ++ cutU (co l) (co l2) s k) = some (z ++ tl s e)) ∧ Aside0 (fr e = true) ∧ Aside0 (Mod w w' No [bx g_sm 34 #[.int .i64 e.1, .int .i64 e.2], rowS (some ad) b1 u, bx g_q 26 #[.int .i64 (d : Int), .int .i64 (n : Int), .slice B z.length b], rowT B b z, bx g_r 26 #[(.int .i64 0), (.int .i64 0), (.slice none 0 0)], bx g_a 26 #[.int .i64 (d : Int), .int .i64 (n : Int), .slice A2 l2.length cc], bx g_p 26 #[.int .i64 (d : Int), .int .i64 (n : Int), .slice A l.length c]])) (fun v _ => s.size + 1 - (intOf v).toNat)
          case atStart => exact ⟨0, (0, 1), by omega, rfl, ⟨by rw [cutU_zero, List.append_nil, tl_zero, List.append_nil]; exact HZ.out⟩, ⟨fr_zero⟩, HS⟩
          case round =>
            clear HS
            obtain ⟨k, e, hk, rfl, HK, HFE, HS⟩ := hrel
            by_cases hks : k ≤ s.size
            · skip
              have f1_ := HS.out.str 1 rfl HE.out
              go_wp2
              clear f1_
              replace HS := sD HS
              apply region_told ((fun (A0_ : Nat → Nat → Act) (a' : Act) (w' : World) => ∃ (g_va : Nat) (g_vb : Nat), a' = A0_ g_va g_vb ∧ Aside0 (Mod w w' No [bx g_vb 34 #[.int .i64 (co l2 (s.extract k s.size)).1, .int .i64 (co l2 (s.extract k s.size)).2], bx g_va 34 #[.int .i64 (co l (s.extract 0 k)).1, .int .i64 (co l (s.extract 0 k)).2], bx g_sm 34 #[.int .i64 e.1, .int .i64 e.2], rowS (some ad) b1 u, bx g_q 26 #[.int .i64 (d : Int), .int .i64 (n : Int), .slice B z.length b], rowT B b z, bx g_r 26 #[(.int .i64 0), (.int .i64 0), (.slice none 0 0)], bx g_a 26 #[.int .i64 (d : Int), .int .i64 (n : Int), .slice A2 l2.length cc], bx g_p 26 #[.int .i64 (d : Int), .int .i64 (n : Int), .slice A l.length c]])) _)
              case h1 =>
                refine ps (.p 1 (.p 2 (.p 3 (.p 5 (.p 9 (.p 10 (.p 11 (.p 13 (.t 0 (.t 4 (.p 6 (.t 8 (.t 12 (.p 14 (.three 7 16 17 (.three 15 16 17 (.two 16 17 (.e 17 (.d 18 (.d 19 .done))) (.e 16 (.d 18 (.d 19 .done)))) (.two 15 17 (.e 17 (.d 18 (.d 19 .done))) (.e 15 (.d 18 (.d 19 .done)))) (.two 15 16 (.e 16 (.d 18 (.d 19 .done))) (.e 15 (.d 18 (.d 19 .done))))) (.two 7 17 (.two 15 17 (.e 17 (.d 18 (.d 19 .done))) (.e 15 (.d 18 (.d 19 .done)))) (.e 7 (.e 15 (.d 18 (.d 19 .done))))) (.two 7 16 (.two 15 16 (.e 16 (.d 18 (.d 19 .done))) (.e 15 (.d 18 (.d 19 .done)))) (.e 7 (.e 15 (.d 18 (.d 19 .done)))))))))))))))))))) (fun w' => w'.cell? ⟨g_p, 0, none⟩ = some (.int .i64 (d : Int)) ∧ w'.cell? ⟨g_p, 1, none⟩ = some (.int .i64 (n : Int)) ∧ w'.cell? ⟨g_p, 2, none⟩ = some (.slice A l.length c) ∧ w'.cell? (ad.add i) = some (.string s) ∧ w'.cell? ⟨g_a, 0, none⟩ = some (.int .i64 (d : Int)) ∧ w'.cell? ⟨g_a, 1, none⟩ = some (.int .i64 (n : Int)) ∧ w'.cell? ⟨g_a, 2, none⟩ = some (.slice A2 l2.length cc)) [18, 19] ⟨HS.out.c 6 0 (v := .int .i64 (d : Int)) rfl rfl, HS.out.c 6 1 (v := .int .i64 (n : Int)) rfl rfl, HS.out.c 6 2 (v := .slice A l.length c) rfl rfl, HS.out.str 1 rfl HE.out, HS.out.c 5 0 (v := .int .i64 (d : Int)) rfl rfl, HS.out.c 5 1 (v := .int .i64 (n : Int)) rfl rfl, HS.out.c 5 2 (v := .slice A2 l2.length cc) rfl rfl⟩ (fun hHeld => ?_)
                repeat (first | ((with_reducible refine gate_p ?_); refine rp rfl rfl ?_) | ((with_reducible refine gate_t ?_); refine rt rfl rfl hHeld ?_))
                refine run_three ?_ ?_ ?_
                · skip
                  refine run_e rfl (fun K hK => ?_)
                  refine gc Try.func120 (specValue d n A c l (s.extract 0 k) _ (HS.out.oldC HR.out) hc hll) rfl rfl ?_
                  rintro e_ w1 ⟨rfl, hb⟩
                  refine ⟨_, rfl, ?_⟩
                  replace HS := sB HS hb
                  refine ge hK ⟨HS.out.c 6 0 (v := .int .i64 (d : Int)) rfl rfl, HS.out.c 6 1 (v := .int .i64 (n : Int)) rfl rfl, HS.out.c 6 2 (v := .slice A l.length c) rfl rfl, HS.out.str 1 rfl HE.out, HS.out.c 5 0 (v := .int .i64 (d : Int)) rfl rfl, HS.out.c 5 1 (v := .int .i64 (n : Int)) rfl rfl, HS.out.c 5 2 (v := .slice A2 l2.length cc) rfl rfl⟩ (fun hHeld => ?_)
                  refine run_three ?_ ?_ ?_
                  · skip
                    refine run_e rfl (fun K hK => ?_)
                    refine gc Try.func120 (specValue d n A2 cc l2 (s.extract k s.size) _ (HS.out.oldC HR2.out) hcc hll2) rfl rfl ?_
                    rintro e_ w1 ⟨rfl, hb⟩
                    refine ⟨_, rfl, ?_⟩
                    replace HS := sB HS hb
                    refine ge hK ⟨HS.out.c 6 0 (v := .int .i64 (d : Int)) rfl rfl, HS.out.c 6 1 (v := .int .i64 (n : Int)) rfl rfl, HS.out.c 6 2 (v := .slice A l.length c) rfl rfl, HS.out.str 1 rfl HE.out, HS.out.c 5 0 (v := .int .i64 (d : Int)) rfl rfl, HS.out.c 5 1 (v := .int .i64 (n : Int)) rfl rfl, HS.out.c 5 2 (v := .slice A2 l2.length cc) rfl rfl⟩ (fun hHeld => ?_)
                    refine run_two ?_ ?_
                    · skip
                      refine run_e rfl (fun K hK => ?_)
                      refine bx1 34 #[(.int .i64 0), (.int .i64 0)] HS ?_
                      intro g_va w1 hg_va HS
                      refine ge hK ⟨HS.out.c 7 0 (v := .int .i64 (d : Int)) rfl rfl, HS.out.c 7 1 (v := .int .i64 (n : Int)) rfl rfl, HS.out.c 7 2 (v := .slice A l.length c) rfl rfl, HS.out.str 2 rfl HE.out, HS.out.c 6 0 (v := .int .i64 (d : Int)) rfl rfl, HS.out.c 6 1 (v := .int .i64 (n : Int)) rfl rfl, HS.out.c 6 2 (v := .slice A2 l2.length cc) rfl rfl⟩ (fun hHeld => ?_)
                      refine run_e rfl (fun K hK => ?_)
                      refine bx1 34 #[(.int .i64 0), (.int .i64 0)] HS ?_
                      intro g_vb w1 hg_vb HS
                      refine ge hK ⟨HS.out.c 8 0 (v := .int .i64 (d : Int)) rfl rfl, HS.out.c 8 1 (v := .int .i64 (n : Int)) rfl rfl, HS.out.c 8 2 (v := .slice A l.length c) rfl rfl, HS.out.str 3 rfl HE.out, HS.out.c 7 0 (v := .int .i64 (d : Int)) rfl rfl, HS.out.c 7 1 (v := .int .i64 (n : Int)) rfl rfl, HS.out.c 7 2 (v := .slice A2 l2.length cc) rfl rfl⟩ (fun hHeld => ?_)
                      refine run_d rfl (fun K hK => ?_)
                      refine st1 HS 1 0 #[.int .i64 (co l (s.extract 0 k)).1, .int .i64 (co l (s.extract 0 k)).2] rfl rfl rfl rfl rfl ?_
                      intro w1 HS
                      refine goD hK rfl ?_
                      refine run_d rfl (fun K hK => ?_)
                      refine st1 HS 0 0 #[.int .i64 (co l2 (s.extract k s.size)).1, .int .i64 (co l2 (s.extract k s.size)).2] rfl rfl rfl rfl rfl ?_
                      intro w1 HS
                      refine goD hK rfl ?_
                      refine run_done ?_
                      exact ⟨g_va, g_vb, rfl, HS⟩
                    · skip
                      refine run_e rfl (fun K hK => ?_)
                      refine bx1 34 #[(.int .i64 0), (.int .i64 0)] HS ?_
                      intro g_vb w1 hg_vb HS
                      refine ge hK ⟨HS.out.c 7 0 (v := .int .i64 (d : Int)) rfl rfl, HS.out.c 7 1 (v := .int .i64 (n : Int)) rfl rfl, HS.out.c 7 2 (v := .slice A l.length c) rfl rfl, HS.out.str 2 rfl HE.out, HS.out.c 6 0 (v := .int .i64 (d : Int)) rfl rfl, HS.out.c 6 1 (v := .int .i64 (n : Int)) rfl rfl, HS.out.c 6 2 (v := .slice A2 l2.length cc) rfl rfl⟩ (fun hHeld => ?_)
                      refine run_e rfl (fun K hK => ?_)
                      refine bx1 34 #[(.int .i64 0), (.int .i64 0)] HS ?_
                      intro g_va w1 hg_va HS
                      refine ge hK ⟨HS.out.c 8 0 (v := .int .i64 (d : Int)) rfl rfl, HS.out.c 8 1 (v := .int .i64 (n : Int)) rfl rfl, HS.out.c 8 2 (v := .slice A l.length c) rfl rfl, HS.out.str 3 rfl HE.out, HS.out.c 7 0 (v := .int .i64 (d : Int)) rfl rfl, HS.out.c 7 1 (v := .int .i64 (n : Int)) rfl rfl, HS.out.c 7 2 (v := .slice A2 l2.length cc) rfl rfl⟩ (fun hHeld => ?_)
                      refine run_d rfl (fun K hK => ?_)
                      refine st1 HS 0 0 #[.int .i64 (co l (s.extract 0 k)).1, .int .i64 (co l (s.extract 0 k)).2] rfl rfl rfl rfl rfl ?_
                      intro w1 HS
                      refine goD hK rfl ?_
                      refine run_d rfl (fun K hK => ?_)
                      refine st1 HS 1 0 #[.int .i64 (co l2 (s.extract k s.size)).1, .int .i64 (co l2 (s.extract k s.size)).2] rfl rfl rfl rfl rfl ?_
                      intro w1 HS
                      refine goD hK rfl ?_
                      refine run_done ?_
                      have n_ := HS.out.sel [1, 0, 2, 3, 4, 5, 6, 7, 8] (by decide)
                      simp only [List.filterMap_cons, List.filterMap_nil, List.getElem?_cons_zero, List.getElem?_cons_succ] at n_
                      exact ⟨g_va, g_vb, rfl, ⟨n_⟩⟩
                  · skip
                    refine run_e rfl (fun K hK => ?_)
                    refine bx1 34 #[(.int .i64 0), (.int .i64 0)] HS ?_
                    intro g_va w1 hg_va HS
                    refine ge hK ⟨HS.out.c 7 0 (v := .int .i64 (d : Int)) rfl rfl, HS.out.c 7 1 (v := .int .i64 (n : Int)) rfl rfl, HS.out.c 7 2 (v := .slice A l.length c) rfl rfl, HS.out.str 2 rfl HE.out, HS.out.c 6 0 (v := .int .i64 (d : Int)) rfl rfl, HS.out.c 6 1 (v := .int .i64 (n : Int)) rfl rfl, HS.out.c 6 2 (v := .slice A2 l2.length cc) rfl rfl⟩ (fun hHeld => ?_)
                    refine run_two ?_ ?_
                    · skip
                      refine run_e rfl (fun K hK => ?_)
                      refine gc Try.func120 (specValue d n A2 cc l2 (s.extract k s.size) _ (HS.out.oldC HR2.out) hcc hll2) rfl rfl ?_
                      rintro e_ w1 ⟨rfl, hb⟩
                      refine ⟨_, rfl, ?_⟩
                      replace HS := sB HS hb
                      refine ge hK ⟨HS.out.c 7 0 (v := .int .i64 (d : Int)) rfl rfl, HS.out.c 7 1 (v := .int .i64 (n : Int)) rfl rfl, HS.out.c 7 2 (v := .slice A l.length c) rfl rfl, HS.out.str 2 rfl HE.out, HS.out.c 6 0 (v := .int .i64 (d : Int)) rfl rfl, HS.out.c 6 1 (v := .int .i64 (n : Int)) rfl rfl, HS.out.c 6 2 (v := .slice A2 l2.length cc) rfl rfl⟩ (fun hHeld => ?_)
                      refine run_e rfl (fun K hK => ?_)
                      refine bx1 34 #[(.int .i64 0), (.int .i64 0)] HS ?_
                      intro g_vb w1 hg_vb HS
                      refine ge hK ⟨HS.out.c 8 0 (v := .int .i64 (d : Int)) rfl rfl, HS.out.c 8 1 (v := .int .i64 (n : Int)) rfl rfl, HS.out.c 8 2 (v := .slice A l.length c) rfl rfl, HS.out.str 3 rfl HE.out, HS.out.c 7 0 (v := .int .i64 (d : Int)) rfl rfl, HS.out.c 7 1 (v := .int .i64 (n : Int)) rfl rfl, HS.out.c 7 2 (v := .slice A2 l2.length cc) rfl rfl⟩ (fun hHeld => ?_)
                      refine run_d rfl (fun K hK => ?_)
                      refine st1 HS 1 0 #[.int .i64 (co l (s.extract 0 k)).1, .int .i64 (co l (s.extract 0 k)).2] rfl rfl rfl rfl rfl ?_
                      intro w1 HS
                      refine goD hK rfl ?_
                      refine run_d rfl (fun K hK => ?_)
                      refine st1 HS 0 0 #[.int .i64 (co l2 (s.extract k s.size)).1, .int .i64 (co l2 (s.extract k s.size)).2] rfl rfl rfl rfl rfl ?_
                      intro w1 HS
                      refine goD hK rfl ?_
                      refine run_done ?_
                      have n_ := HS.out.sel [0, 1, 2, 3, 4, 5, 6, 7, 8] (by decide)
                      simp only [List.filterMap_cons, List.filterMap_nil, List.getElem?_cons_zero, List.getElem?_cons_succ] at n_
                      exact ⟨g_va, g_vb, rfl, ⟨n_⟩⟩
                    · skip
                      refine run_e rfl (fun K hK => ?_)
                      refine bx1 34 #[(.int .i64 0), (.int .i64 0)] HS ?_
                      intro g_vb w1 hg_vb HS
                      refine ge hK ⟨HS.out.c 8 0 (v := .int .i64 (d : Int)) rfl rfl, HS.out.c 8 1 (v := .int .i64 (n : Int)) rfl rfl, HS.out.c 8 2 (v := .slice A l.length c) rfl rfl, HS.out.str 3 rfl HE.out, HS.out.c 7 0 (v := .int .i64 (d : Int)) rfl rfl, HS.out.c 7 1 (v := .int .i64 (n : Int)) rfl rfl, HS.out.c 7 2 (v := .slice A2 l2.length cc) rfl rfl⟩ (fun hHeld => ?_)
                      refine run_e rfl (fun K hK => ?_)
                      refine gc Try.func120 (specValue d n A2 cc l2 (s.extract k s.size) _ (HS.out.oldC HR2.out) hcc hll2) rfl rfl ?_
                      rintro e_ w1 ⟨rfl, hb⟩
                      refine ⟨_, rfl, ?_⟩
                      replace HS := sB HS hb
                      refine ge hK ⟨HS.out.c 8 0 (v := .int .i64 (d : Int)) rfl rfl, HS.out.c 8 1 (v := .int .i64 (n : Int)) rfl rfl, HS.out.c 8 2 (v := .slice A l.length c) rfl rfl, HS.out.str 3 rfl HE.out, HS.out.c 7 0 (v := .int .i64 (d : Int)) rfl rfl, HS.out.c 7 1 (v := .int .i64 (n : Int)) rfl rfl, HS.out.c 7 2 (v := .slice A2 l2.length cc) rfl rfl⟩ (fun hHeld => ?_)
                      refine run_d rfl (fun K hK => ?_)
                      refine st1 HS 1 0 #[.int .i64 (co l (s.extract 0 k)).1, .int .i64 (co l (s.extract 0 k)).2] rfl rfl rfl rfl rfl ?_
                      intro w1 HS
                      refine goD hK rfl ?_
                      refine run_d rfl (fun K hK => ?_)
                      refine st1 HS 0 0 #[.int .i64 (co l2 (s.extract k s.size)).1, .int .i64 (co l2 (s.extract k s.size)).2] rfl rfl rfl rfl rfl ?_
                      intro w1 HS
                      refine goD hK rfl ?_
                      refine run_done ?_
                      have n_ := HS.out.sel [0, 1, 2, 3, 4, 5, 6, 7, 8] (by decide)
                      simp only [List.filterMap_cons, List.filterMap_nil, List.getElem?_cons_zero, List.getElem?_cons_succ] at n_
                      exact ⟨g_va, g_vb, rfl, ⟨n_⟩⟩
                  · skip
                    refine run_e rfl (fun K hK => ?_)
                    refine bx1 34 #[(.int .i64 0), (.int .i64 0)] HS ?_
                    intro g_vb w1 hg_vb HS
                    refine ge hK ⟨HS.out.c 7 0 (v := .int .i64 (d : Int)) rfl rfl, HS.out.c 7 1 (v := .int .i64 (n : Int)) rfl rfl, HS.out.c 7 2 (v := .slice A l.length c) rfl rfl, HS.out.str 2 rfl HE.out, HS.out.c 6 0 (v := .int .i64 (d : Int)) rfl rfl, HS.out.c 6 1 (v := .int .i64 (n : Int)) rfl rfl, HS.out.c 6 2 (v := .slice A2 l2.length cc) rfl rfl⟩ (fun hHeld => ?_)
                    refine run_two ?_ ?_
                    · skip
                      refine run_e rfl (fun K hK => ?_)
                      refine gc Try.func120 (specValue d n A2 cc l2 (s.extract k s.size) _ (HS.out.oldC HR2.out) hcc hll2) rfl rfl ?_
                      rintro e_ w1 ⟨rfl, hb⟩
                      refine ⟨_, rfl, ?_⟩
                      replace HS := sB HS hb
                      refine ge hK ⟨HS.out.c 7 0 (v := .int .i64 (d : Int)) rfl rfl, HS.out.c 7 1 (v := .int .i64 (n : Int)) rfl rfl, HS.out.c 7 2 (v := .slice A l.length c) rfl rfl, HS.out.str 2 rfl HE.out, HS.out.c 6 0 (v := .int .i64 (d : Int)) rfl rfl, HS.out.c 6 1 (v := .int .i64 (n : Int)) rfl rfl, HS.out.c 6 2 (v := .slice A2 l2.length cc) rfl rfl⟩ (fun hHeld => ?_)
                      refine run_e rfl (fun K hK => ?_)
                      refine bx1 34 #[(.int .i64 0), (.int .i64 0)] HS ?_
                      intro g_va w1 hg_va HS
                      refine ge hK ⟨HS.out.c 8 0 (v := .int .i64 (d : Int)) rfl rfl, HS.out.c 8 1 (v := .int .i64 (n : Int)) rfl rfl, HS.out.c 8 2 (v := .slice A l.length c) rfl rfl, HS.out.str 3 rfl HE.out, HS.out.c 7 0 (v := .int .i64 (d : Int)) rfl rfl, HS.out.c 7 1 (v := .int .i64 (n : Int)) rfl rfl, HS.out.c 7 2 (v := .slice A2 l2.length cc) rfl rfl⟩ (fun hHeld => ?_)
                      refine run_d rfl (fun K hK => ?_)
                      refine st1 HS 0 0 #[.int .i64 (co l (s.extract 0 k)).1, .int .i64 (co l (s.extract 0 k)).2] rfl rfl rfl rfl rfl ?_
                      intro w1 HS
                      refine goD hK rfl ?_
                      refine run_d rfl (fun K hK => ?_)
                      refine st1 HS 1 0 #[.int .i64 (co l2 (s.extract k s.size)).1, .int .i64 (co l2 (s.extract k s.size)).2] rfl rfl rfl rfl rfl ?_
                      intro w1 HS
                      refine goD hK rfl ?_
                      refine run_done ?_
                      have n_ := HS.out.sel [1, 0, 2, 3, 4, 5, 6, 7, 8] (by decide)
                      simp only [List.filterMap_cons, List.filterMap_nil, List.getElem?_cons_zero, List.getElem?_cons_succ] at n_
                      exact ⟨g_va, g_vb, rfl, ⟨n_⟩⟩
                    · skip
                      refine run_e rfl (fun K hK => ?_)
                      refine bx1 34 #[(.int .i64 0), (.int .i64 0)] HS ?_
                      intro g_va w1 hg_va HS
                      refine ge hK ⟨HS.out.c 8 0 (v := .int .i64 (d : Int)) rfl rfl, HS.out.c 8 1 (v := .int .i64 (n : Int)) rfl rfl, HS.out.c 8 2 (v := .slice A l.length c) rfl rfl, HS.out.str 3 rfl HE.out, HS.out.c 7 0 (v := .int .i64 (d : Int)) rfl rfl, HS.out.c 7 1 (v := .int .i64 (n : Int)) rfl rfl, HS.out.c 7 2 (v := .slice A2 l2.length cc) rfl rfl⟩ (fun hHeld => ?_)
                      refine run_e rfl (fun K hK => ?_)
                      refine gc Try.func120 (specValue d n A2 cc l2 (s.extract k s.size) _ (HS.out.oldC HR2.out) hcc hll2) rfl rfl ?_
                      rintro e_ w1 ⟨rfl, hb⟩
                      refine ⟨_, rfl, ?_⟩
                      replace HS := sB HS hb
                      refine ge hK ⟨HS.out.c 8 0 (v := .int .i64 (d : Int)) rfl rfl, HS.out.c 8 1 (v := .int .i64 (n : Int)) rfl rfl, HS.out.c 8 2 (v := .slice A l.length c) rfl rfl, HS.out.str 3 rfl HE.out, HS.out.c 7 0 (v := .int .i64 (d : Int)) rfl rfl, HS.out.c 7 1 (v := .int .i64 (n : Int)) rfl rfl, HS.out.c 7 2 (v := .slice A2 l2.length cc) rfl rfl⟩ (fun hHeld => ?_)
                      refine run_d rfl (fun K hK => ?_)
                      refine st1 HS 0 0 #[.int .i64 (co l (s.extract 0 k)).1, .int .i64 (co l (s.extract 0 k)).2] rfl rfl rfl rfl rfl ?_
                      intro w1 HS
                      refine goD hK rfl ?_
                      refine run_d rfl (fun K hK => ?_)
                      refine st1 HS 1 0 #[.int .i64 (co l2 (s.extract k s.size)).1, .int .i64 (co l2 (s.extract k s.size)).2] rfl rfl rfl rfl rfl ?_
                      intro w1 HS
                      refine goD hK rfl ?_
                      refine run_done ?_
                      have n_ := HS.out.sel [1, 0, 2, 3, 4, 5, 6, 7, 8] (by decide)
                      simp only [List.filterMap_cons, List.filterMap_nil, List.getElem?_cons_zero, List.getElem?_cons_succ] at n_
                      exact ⟨g_va, g_vb, rfl, ⟨n_⟩⟩
                · skip
                  refine run_e rfl (fun K hK => ?_)
                  refine bx1 34 #[(.int .i64 0), (.int .i64 0)] HS ?_
                  intro g_va w1 hg_va HS
                  refine ge hK ⟨HS.out.c 7 0 (v := .int .i64 (d : Int)) rfl rfl, HS.out.c 7 1 (v := .int .i64 (n : Int)) rfl rfl, HS.out.c 7 2 (v := .slice A l.length c) rfl rfl, HS.out.str 2 rfl HE.out, HS.out.c 6 0 (v := .int .i64 (d : Int)) rfl rfl, HS.out.c 6 1 (v := .int .i64 (n : Int)) rfl rfl, HS.out.c 6 2 (v := .slice A2 l2.length cc) rfl rfl⟩ (fun hHeld => ?_)
                  refine run_two ?_ ?_
                  · skip
                    refine run_e rfl (fun K hK => ?_)
                    refine gc Try.func120 (specValue d n A c l (s.extract 0 k) _ (HS.out.oldC HR.out) hc hll) rfl rfl ?_
                    rintro e_ w1 ⟨rfl, hb⟩
                    refine ⟨_, rfl, ?_⟩
                    replace HS := sB HS hb
                    refine ge hK ⟨HS.out.c 7 0 (v := .int .i64 (d : Int)) rfl rfl, HS.out.c 7 1 (v := .int .i64 (n : Int)) rfl rfl, HS.out.c 7 2 (v := .slice A l.length c) rfl rfl, HS.out.str 2 rfl HE.out, HS.out.c 6 0 (v := .int .i64 (d : Int)) rfl rfl, HS.out.c 6 1 (v := .int .i64 (n : Int)) rfl rfl, HS.out.c 6 2 (v := .slice A2 l2.length cc) rfl rfl⟩ (fun hHeld => ?_)
                    refine run_two ?_ ?_
                    · skip
                      refine run_e rfl (fun K hK => ?_)
                      refine gc Try.func120 (specValue d n A2 cc l2 (s.extract k s.size) _ (HS.out.oldC HR2.out) hcc hll2) rfl rfl ?_
                      rintro e_ w1 ⟨rfl, hb⟩
                      refine ⟨_, rfl, ?_⟩
                      replace HS := sB HS hb
                      refine ge hK ⟨HS.out.c 7 0 (v := .int .i64 (d : Int)) rfl rfl, HS.out.c 7 1 (v := .int .i64 (n : Int)) rfl rfl, HS.out.c 7 2 (v := .slice A l.length c) rfl rfl, HS.out.str 2 rfl HE.out, HS.out.c 6 0 (v := .int .i64 (d : Int)) rfl rfl, HS.out.c 6 1 (v := .int .i64 (n : Int)) rfl rfl, HS.out.c 6 2 (v := .slice A2 l2.length cc) rfl rfl⟩ (fun hHeld => ?_)
                      refine run_e rfl (fun K hK => ?_)
                      refine bx1 34 #[(.int .i64 0), (.int .i64 0)] HS ?_
                      intro g_vb w1 hg_vb HS
                      refine ge hK ⟨HS.out.c 8 0 (v := .int .i64 (d : Int)) rfl rfl, HS.out.c 8 1 (v := .int .i64 (n : Int)) rfl rfl, HS.out.c 8 2 (v := .slice A l.length c) rfl rfl, HS.out.str 3 rfl HE.out, HS.out.c 7 0 (v := .int .i64 (d : Int)) rfl rfl, HS.out.c 7 1 (v := .int .i64 (n : Int)) rfl rfl, HS.out.c 7 2 (v := .slice A2 l2.length cc) rfl rfl⟩ (fun hHeld => ?_)
                      refine run_d rfl (fun K hK => ?_)
                      refine st1 HS 1 0 #[.int .i64 (co l (s.extract 0 k)).1, .int .i64 (co l (s.extract 0 k)).2] rfl rfl rfl rfl rfl ?_
                      intro w1 HS
                      refine goD hK rfl ?_
                      refine run_d rfl (fun K hK => ?_)
                      refine st1 HS 0 0 #[.int .i64 (co l2 (s.extract k s.size)).1, .int .i64 (co l2 (s.extract k s.size)).2] rfl rfl rfl rfl rfl ?_
                      intro w1 HS
                      refine goD hK rfl ?_
                      refine run_done ?_
                      have n_ := HS.out.sel [0, 1, 2, 3, 4, 5, 6, 7, 8] (by decide)
                      simp only [List.filterMap_cons, List.filterMap_nil, List.getElem?_cons_zero, List.getElem?_cons_succ] at n_
                      exact ⟨g_va, g_vb, rfl, ⟨n_⟩⟩
                    · skip
                      refine run_e rfl (fun K hK => ?_)
                      refine bx1 34 #[(.int .i64 0), (.int .i64 0)] HS ?_
                      intro g_vb w1 hg_vb HS
                      refine ge hK ⟨HS.out.c 8 0 (v := .int .i64 (d : Int)) rfl rfl, HS.out.c 8 1 (v := .int .i64 (n : Int)) rfl rfl, HS.out.c 8 2 (v := .slice A l.length c) rfl rfl, HS.out.str 3 rfl HE.out, HS.out.c 7 0 (v := .int .i64 (d : Int)) rfl rfl, HS.out.c 7 1 (v := .int .i64 (n : Int)) rfl rfl, HS.out.c 7 2 (v := .slice A2 l2.length cc) rfl rfl⟩ (fun hHeld => ?_)
                      refine run_e rfl (fun K hK => ?_)
                      refine gc Try.func120 (specValue d n A2 cc l2 (s.extract k s.size) _ (HS.out.oldC HR2.out) hcc hll2) rfl rfl ?_
                      rintro e_ w1 ⟨rfl, hb⟩
                      refine ⟨_, rfl, ?_⟩
                      replace HS := sB HS hb
                      refine ge hK ⟨HS.out.c 8 0 (v := .int .i64 (d : Int)) rfl rfl, HS.out.c 8 1 (v := .int .i64 (n : Int)) rfl rfl, HS.out.c 8 2 (v := .slice A l.length c) rfl rfl, HS.out.str 3 rfl HE.out, HS.out.c 7 0 (v := .int .i64 (d : Int)) rfl rfl, HS.out.c 7 1 (v := .int .i64 (n : Int)) rfl rfl, HS.out.c 7 2 (v := .slice A2 l2.length cc) rfl rfl⟩ (fun hHeld => ?_)
                      refine run_d rfl (fun K hK => ?_)
                      refine st1 HS 1 0 #[.int .i64 (co l (s.extract 0 k)).1, .int .i64 (co l (s.extract 0 k)).2] rfl rfl rfl rfl rfl ?_
                      intro w1 HS
                      refine goD hK rfl ?_
                      refine run_d rfl (fun K hK => ?_)
                      refine st1 HS 0 0 #[.int .i64 (co l2 (s.extract k s.size)).1, .int .i64 (co l2 (s.extract k s.size)).2] rfl rfl rfl rfl rfl ?_
                      intro w1 HS
                      refine goD hK rfl ?_
                      refine run_done ?_
                      have n_ := HS.out.sel [0, 1, 2, 3, 4, 5, 6, 7, 8] (by decide)
                      simp only [List.filterMap_cons, List.filterMap_nil, List.getElem?_cons_zero, List.getElem?_cons_succ] at n_
                      exact ⟨g_va, g_vb, rfl, ⟨n_⟩⟩
                  · skip
                    refine run_e rfl (fun K hK => ?_)
                    refine bx1 34 #[(.int .i64 0), (.int .i64 0)] HS ?_
                    intro g_vb w1 hg_vb HS
                    refine ge hK ⟨HS.out.c 8 0 (v := .int .i64 (d : Int)) rfl rfl, HS.out.c 8 1 (v := .int .i64 (n : Int)) rfl rfl, HS.out.c 8 2 (v := .slice A l.length c) rfl rfl, HS.out.str 3 rfl HE.out, HS.out.c 7 0 (v := .int .i64 (d : Int)) rfl rfl, HS.out.c 7 1 (v := .int .i64 (n : Int)) rfl rfl, HS.out.c 7 2 (v := .slice A2 l2.length cc) rfl rfl⟩ (fun hHeld => ?_)
                    refine run_e rfl (fun K hK => ?_)
                    refine gc Try.func120 (specValue d n A c l (s.extract 0 k) _ (HS.out.oldC HR.out) hc hll) rfl rfl ?_
                    rintro e_ w1 ⟨rfl, hb⟩
                    refine ⟨_, rfl, ?_⟩
                    replace HS := sB HS hb
                    refine ge hK ⟨HS.out.c 8 0 (v := .int .i64 (d : Int)) rfl rfl, HS.out.c 8 1 (v := .int .i64 (n : Int)) rfl rfl, HS.out.c 8 2 (v := .slice A l.length c) rfl rfl, HS.out.str 3 rfl HE.out, HS.out.c 7 0 (v := .int .i64 (d : Int)) rfl rfl, HS.out.c 7 1 (v := .int .i64 (n : Int)) rfl rfl, HS.out.c 7 2 (v := .slice A2 l2.length cc) rfl rfl⟩ (fun hHeld => ?_)
                    refine run_e rfl (fun K hK => ?_)
                    refine gc Try.func120 (specValue d n A2 cc l2 (s.extract k s.size) _ (HS.out.oldC HR2.out) hcc hll2) rfl rfl ?_
                    rintro e_ w1 ⟨rfl, hb⟩
                    refine ⟨_, rfl, ?_⟩
                    replace HS := sB HS hb
                    refine ge hK ⟨HS.out.c 8 0 (v := .int .i64 (d : Int)) rfl rfl, HS.out.c 8 1 (v := .int .i64 (n : Int)) rfl rfl, HS.out.c 8 2 (v := .slice A l.length c) rfl rfl, HS.out.str 3 rfl HE.out, HS.out.c 7 0 (v := .int .i64 (d : Int)) rfl rfl, HS.out.c 7 1 (v := .int .i64 (n : Int)) rfl rfl, HS.out.c 7 2 (v := .slice A2 l2.length cc) rfl rfl⟩ (fun hHeld => ?_)
                    refine run_d rfl (fun K hK => ?_)
                    refine st1 HS 1 0 #[.int .i64 (co l (s.extract 0 k)).1, .int .i64 (co l (s.extract 0 k)).2] rfl rfl rfl rfl rfl ?_
                    intro w1 HS
                    refine goD hK rfl ?_
                    refine run_d rfl (fun K hK => ?_)
                    refine st1 HS 0 0 #[.int .i64 (co l2 (s.extract k s.size)).1, .int .i64 (co l2 (s.extract k s.size)).2] rfl rfl rfl rfl rfl ?_
                    intro w1 HS
                    refine goD hK rfl ?_
                    refine run_done ?_
                    have n_ := HS.out.sel [0, 1, 2, 3, 4, 5, 6, 7, 8] (by decide)
                    simp only [List.filterMap_cons, List.filterMap_nil, List.getElem?_cons_zero, List.getElem?_cons_succ] at n_
                    exact ⟨g_va, g_vb, rfl, ⟨n_⟩⟩
                · skip
                  refine run_e rfl (fun K hK => ?_)
                  refine bx1 34 #[(.int .i64 0), (.int .i64 0)] HS ?_
                  intro g_vb w1 hg_vb HS
                  refine ge hK ⟨HS.out.c 7 0 (v := .int .i64 (d : Int)) rfl rfl, HS.out.c 7 1 (v := .int .i64 (n : Int)) rfl rfl, HS.out.c 7 2 (v := .slice A l.length c) rfl rfl, HS.out.str 2 rfl HE.out, HS.out.c 6 0 (v := .int .i64 (d : Int)) rfl rfl, HS.out.c 6 1 (v := .int .i64 (n : Int)) rfl rfl, HS.out.c 6 2 (v := .slice A2 l2.length cc) rfl rfl⟩ (fun hHeld => ?_)
                  refine run_two ?_ ?_
                  · skip
                    refine run_e rfl (fun K hK => ?_)
                    refine gc Try.func120 (specValue d n A c l (s.extract 0 k) _ (HS.out.oldC HR.out) hc hll) rfl rfl ?_
                    rintro e_ w1 ⟨rfl, hb⟩
                    refine ⟨_, rfl, ?_⟩
                    replace HS := sB HS hb
                    refine ge hK ⟨HS.out.c 7 0 (v := .int .i64 (d : Int)) rfl rfl, HS.out.c 7 1 (v := .int .i64 (n : Int)) rfl rfl, HS.out.c 7 2 (v := .slice A l.length c) rfl rfl, HS.out.str 2 rfl HE.out, HS.out.c 6 0 (v := .int .i64 (d : Int)) rfl rfl, HS.out.c 6 1 (v := .int .i64 (n : Int)) rfl rfl, HS.out.c 6 2 (v := .slice A2 l2.length cc) rfl rfl⟩ (fun hHeld => ?_)
                    refine run_two ?_ ?_
                    · skip
                      refine run_e rfl (fun K hK => ?_)
                      refine gc Try.func120 (specValue d n A2 cc l2 (s.extract k s.size) _ (HS.out.oldC HR2.out) hcc hll2) rfl rfl ?_
                      rintro e_ w1 ⟨rfl, hb⟩
                      refine ⟨_, rfl, ?_⟩
                      replace HS := sB HS hb
                      refine ge hK ⟨HS.out.c 7 0 (v := .int .i64 (d : Int)) rfl rfl, HS.out.c 7 1 (v := .int .i64 (n : Int)) rfl rfl, HS.out.c 7 2 (v := .slice A l.length c) rfl rfl, HS.out.str 2 rfl HE.out, HS.out.c 6 0 (v := .int .i64 (d : Int)) rfl rfl, HS.out.c 6 1 (v := .int .i64 (n : Int)) rfl rfl, HS.out.c 6 2 (v := .slice A2 l2.length cc) rfl rfl⟩ (fun hHeld => ?_)
                      refine run_e rfl (fun K hK => ?_)
                      refine bx1 34 #[(.int .i64 0), (.int .i64 0)] HS ?_
                      intro g_va w1 hg_va HS
                      refine ge hK ⟨HS.out.c 8 0 (v := .int .i64 (d : Int)) rfl rfl, HS.out.c 8 1 (v := .int .i64 (n : Int)) rfl rfl, HS.out.c 8 2 (v := .slice A l.length c) rfl rfl, HS.out.str 3 rfl HE.out, HS.out.c 7 0 (v := .int .i64 (d : Int)) rfl rfl, HS.out.c 7 1 (v := .int .i64 (n : Int)) rfl rfl, HS.out.c 7 2 (v := .slice A2 l2.length cc) rfl rfl⟩ (fun hHeld => ?_)
                      refine run_d rfl (fun K hK => ?_)
                      refine st1 HS 0 0 #[.int .i64 (co l (s.extract 0 k)).1, .int .i64 (co l (s.extract 0 k)).2] rfl rfl rfl rfl rfl ?_
                      intro w1 HS
                      refine goD hK rfl ?_
                      refine run_d rfl (fun K hK => ?_)
                      refine st1 HS 1 0 #[.int .i64 (co l2 (s.extract k s.size)).1, .int .i64 (co l2 (s.extract k s.size)).2] rfl rfl rfl rfl rfl ?_
                      intro w1 HS
                      refine goD hK rfl ?_
                      refine run_done ?_
                      have n_ := HS.out.sel [1, 0, 2, 3, 4, 5, 6, 7, 8] (by decide)
                      simp only [List.filterMap_cons, List.filterMap_nil, List.getElem?_cons_zero, List.getElem?_cons_succ] at n_
                      exact ⟨g_va, g_vb, rfl, ⟨n_⟩⟩
                    · skip
                      refine run_e rfl (fun K hK => ?_)
                      refine bx1 34 #[(.int .i64 0), (.int .i64 0)] HS ?_
                      intro g_va w1 hg_va HS
                      refine ge hK ⟨HS.out.c 8 0 (v := .int .i64 (d : Int)) rfl rfl, HS.out.c 8 1 (v := .int .i64 (n : Int)) rfl rfl, HS.out.c 8 2 (v := .slice A l.length c) rfl rfl, HS.out.str 3 rfl HE.out, HS.out.c 7 0 (v := .int .i64 (d : Int)) rfl rfl, HS.out.c 7 1 (v := .int .i64 (n : Int)) rfl rfl, HS.out.c 7 2 (v := .slice A2 l2.length cc) rfl rfl⟩ (fun hHeld => ?_)
                      refine run_e rfl (fun K hK => ?_)
                      refine gc Try.func120 (specValue d n A2 cc l2 (s.extract k s.size) _ (HS.out.oldC HR2.out) hcc hll2) rfl rfl ?_
                      rintro e_ w1 ⟨rfl, hb⟩
                      refine ⟨_, rfl, ?_⟩
                      replace HS := sB HS hb
                      refine ge hK ⟨HS.out.c 8 0 (v := .int .i64 (d : Int)) rfl rfl, HS.out.c 8 1 (v := .int .i64 (n : Int)) rfl rfl, HS.out.c 8 2 (v := .slice A l.length c) rfl rfl, HS.out.str 3 rfl HE.out, HS.out.c 7 0 (v := .int .i64 (d : Int)) rfl rfl, HS.out.c 7 1 (v := .int .i64 (n : Int)) rfl rfl, HS.out.c 7 2 (v := .slice A2 l2.length cc) rfl rfl⟩ (fun hHeld => ?_)
                      refine run_d rfl (fun K hK => ?_)
                      refine st1 HS 0 0 #[.int .i64 (co l (s.extract 0 k)).1, .int .i64 (co l (s.extract 0 k)).2] rfl rfl rfl rfl rfl ?_
                      intro w1 HS
                      refine goD hK rfl ?_
                      refine run_d rfl (fun K hK => ?_)
                      refine st1 HS 1 0 #[.int .i64 (co l2 (s.extract k s.size)).1, .int .i64 (co l2 (s.extract k s.size)).2] rfl rfl rfl rfl rfl ?_
                      intro w1 HS
                      refine goD hK rfl ?_
                      refine run_done ?_
                      have n_ := HS.out.sel [1, 0, 2, 3, 4, 5, 6, 7, 8] (by decide)
                      simp only [List.filterMap_cons, List.filterMap_nil, List.getElem?_cons_zero, List.getElem?_cons_succ] at n_
                      exact ⟨g_va, g_vb, rfl, ⟨n_⟩⟩
                  · skip
                    refine run_e rfl (fun K hK => ?_)
                    refine bx1 34 #[(.int .i64 0), (.int .i64 0)] HS ?_
                    intro g_va w1 hg_va HS
                    refine ge hK ⟨HS.out.c 8 0 (v := .int .i64 (d : Int)) rfl rfl, HS.out.c 8 1 (v := .int .i64 (n : Int)) rfl rfl, HS.out.c 8 2 (v := .slice A l.length c) rfl rfl, HS.out.str 3 rfl HE.out, HS.out.c 7 0 (v := .int .i64 (d : Int)) rfl rfl, HS.out.c 7 1 (v := .int .i64 (n : Int)) rfl rfl, HS.out.c 7 2 (v := .slice A2 l2.length cc) rfl rfl⟩ (fun hHeld => ?_)
                    refine run_e rfl (fun K hK => ?_)
                    refine gc Try.func120 (specValue d n A c l (s.extract 0 k) _ (HS.out.oldC HR.out) hc hll) rfl rfl ?_
                    rintro e_ w1 ⟨rfl, hb⟩
                    refine ⟨_, rfl, ?_⟩
                    replace HS := sB HS hb
                    refine ge hK ⟨HS.out.c 8 0 (v := .int .i64 (d : Int)) rfl rfl, HS.out.c 8 1 (v := .int .i64 (n : Int)) rfl rfl, HS.out.c 8 2 (v := .slice A l.length c) rfl rfl, HS.out.str 3 rfl HE.out, HS.out.c 7 0 (v := .int .i64 (d : Int)) rfl rfl, HS.out.c 7 1 (v := .int .i64 (n : Int)) rfl rfl, HS.out.c 7 2 (v := .slice A2 l2.length cc) rfl rfl⟩ (fun hHeld => ?_)
                    refine run_e rfl (fun K hK => ?_)
                    refine gc Try.func120 (specValue d n A2 cc l2 (s.extract k s.size) _ (HS.out.oldC HR2.out) hcc hll2) rfl rfl ?_
                    rintro e_ w1 ⟨rfl, hb⟩
                    refine ⟨_, rfl, ?_⟩
                    replace HS := sB HS hb
                    refine ge hK ⟨HS.out.c 8 0 (v := .int .i64 (d : Int)) rfl rfl, HS.out.c 8 1 (v := .int .i64 (n : Int)) rfl rfl, HS.out.c 8 2 (v := .slice A l.length c) rfl rfl, HS.out.str 3 rfl HE.out, HS.out.c 7 0 (v := .int .i64 (d : Int)) rfl rfl, HS.out.c 7 1 (v := .int .i64 (n : Int)) rfl rfl, HS.out.c 7 2 (v := .slice A2 l2.length cc) rfl rfl⟩ (fun hHeld => ?_)
                    refine run_d rfl (fun K hK => ?_)
                    refine st1 HS 0 0 #[.int .i64 (co l (s.extract 0 k)).1, .int .i64 (co l (s.extract 0 k)).2] rfl rfl rfl rfl rfl ?_
                    intro w1 HS
                    refine goD hK rfl ?_
                    refine run_d rfl (fun K hK => ?_)
                    refine st1 HS 1 0 #[.int .i64 (co l2 (s.extract k s.size)).1, .int .i64 (co l2 (s.extract k s.size)).2] rfl rfl rfl rfl rfl ?_
                    intro w1 HS
                    refine goD hK rfl ?_
                    refine run_done ?_
                    have n_ := HS.out.sel [1, 0, 2, 3, 4, 5, 6, 7, 8] (by decide)
                    simp only [List.filterMap_cons, List.filterMap_nil, List.getElem?_cons_zero, List.getElem?_cons_succ] at n_
                    exact ⟨g_va, g_vb, rfl, ⟨n_⟩⟩
              clear HS
              rintro a_ w1 ⟨g_va, g_vb, rfl, HS⟩
              by_cases hz1 : (co l (s.extract 0 k)).1 = 0
              · have hb1 : ((co l (s.extract 0 k)).1 == 0) = true := by rw [hz1]; rfl
                have HN := Aside0.mk (times_skip HK.out (.inl hz1))
                clear hz1
                have f1_ := HS.out.c 1 0 (v := .int .i64 (co l (s.extract 0 k)).1) rfl rfl
                have f2_ := HS.out.c 1 1 (v := .int .i64 (co l (s.extract 0 k)).2) rfl rfl
                go_wp2_with (first | (go_at_call 108; refine (specZero _ _ _).mono ?_; rintro e_ w1 ⟨rfl, hb⟩; replace HS := sB HS hb; clear hb f1_ f2_))
                replace HS : Aside0 (Mod _ _ _ [_, _, _, _, _, _, _]) := sX HS [2, 3, 4, 5, 6, 7, 8]
                go_roundw
                case rel => exact ⟨k + 1, e, by omega, by go_num, HN, HFE, HS⟩
                case measure => simp [intOf]; omega
              · have hb1 : ((co l (s.extract 0 k)).1 == 0) = false := by simpa using hz1
                by_cases hz2 : (co l2 (s.extract k s.size)).1 = 0
                · have hb2 : ((co l2 (s.extract k s.size)).1 == 0) = true := by rw [hz2]; rfl
                  have HN := Aside0.mk (times_skip HK.out (.inr hz2))
                  clear hz1 hz2
                  have f1_ := HS.out.c 1 0 (v := .int .i64 (co l (s.extract 0 k)).1) rfl rfl
                  have f2_ := HS.out.c 1 1 (v := .int .i64 (co l (s.extract 0 k)).2) rfl rfl
                  have tk1_ : True := trivial
                  go_wp2_with (first | (go_at_call 108; clear tk1_; refine (specZero _ _ _).mono ?_; rintro e_ w1 ⟨rfl, hb⟩; replace HS := sB HS hb; clear hb f1_ f2_; have f1_ := HS.out.c 0 0 (v := .int .i64 (co l2 (s.extract k s.size)).1) rfl rfl; have f2_ := HS.out.c 0 1 (v := .int .i64 (co l2 (s.extract k s.size)).2) rfl rfl) | (go_at_call 108; refine (specZero _ _ _).mono ?_; rintro e_ w1 ⟨rfl, hb⟩; replace HS := sB HS hb; clear hb f1_ f2_))
                  replace HS : Aside0 (Mod _ _ _ [_, _, _, _, _, _, _]) := sX HS [2, 3, 4, 5, 6, 7, 8]
                  go_roundw
                  case rel => exact ⟨k + 1, e, by omega, by go_num, HN, HFE, HS⟩
                  case measure => simp [intOf]; omega
                · have hb2 : ((co l2 (s.extract k s.size)).1 == 0) = false := by simpa using hz2
                  have HN := Aside0.mk (times_step HBF.out HFE.out HK.out hz1 hz2)
                  clear hz1 hz2
                  obtain ⟨x, hx⟩ : ∃ x, x = co l (s.extract 0 k) := ⟨_, rfl⟩
                  obtain ⟨y, hy⟩ : ∃ y, y = co l2 (s.extract k s.size) := ⟨_, rfl⟩
                  have hxs := fr_small (HF.out (s.extract 0 k))
                  have hys := fr_small (HG.out (s.extract k s.size))
                  rw [← hx] at hb1 hxs HN
                  rw [← hy] at hb2 hys HN
                  rw [← hx, ← hy] at HS ⊢
                  clear hx hy
                  obtain ⟨o, ho⟩ : ∃ o, o = mul x y := ⟨_, rfl⟩
                  have HP := Aside0.mk (fun W => ho ▸ specTimes x.1 x.2 y.1 y.2 W hxs hys)
                  have hof : ∀ v, o = some v → fr v = true := fun v hv => mul_fr (ho.symm.trans hv)
                  rw [← ho] at HN
                  clear ho hxs hys
                  cases o with
                  | none =>
                    have HQ := Aside0.mk (fun W => add_bad e ▸ specPlus e.1 e.2 0 0 W (fr_small HFE.out) ⟨by omega, by omega, by omega, by omega⟩)
                    clear hof
                    have f1_ := HS.out.c 1 0 (v := .int .i64 x.1) rfl rfl
                    have f2_ := HS.out.c 1 1 (v := .int .i64 x.2) rfl rfl
                    have tk2_ : True := trivial
                    go_wp2_with (first | (go_at_call 108; clear tk2_; refine (specZero _ _ _).mono ?_; rintro e_ w1 ⟨rfl, hb⟩; replace HS := sB HS hb; clear hb f1_ f2_; have f1_ := HS.out.c 0 0 (v := .int .i64 y.1) rfl rfl; have f2_ := HS.out.c 0 1 (v := .int .i64 y.2) rfl rfl) | (go_at_call 108; refine (specZero _ _ _).mono ?_; rintro e_ w1 ⟨rfl, hb⟩; replace HS := sB HS hb; clear hb f1_ f2_; have f1_ := HS.out.c 1 0 (v := .int .i64 x.1) rfl rfl; have f2_ := HS.out.c 1 1 (v := .int .i64 x.2) rfl rfl; have f3_ := HS.out.c 0 0 (v := .int .i64 y.1) rfl rfl; have f4_ := HS.out.c 0 1 (v := .int .i64 y.2) rfl rfl) | (go_at_call 121; refine (HP.out _).mono ?_; rintro e_ w1 ⟨rfl, hb⟩; replace HS := sB HS hb; clear hb f1_ f2_ f3_ f4_) | ((with_reducible refine gate_dst (N := 14) rfl ?_); refine bxL 34 #[(.int .i64 0), (.int .i64 0)] HS ?_; clear HS; intro g_pr w1 hg_pr HS) | ((with_reducible refine gate_store (t := 34) (p := 14) rfl ?_); refine stL HS 0 0 #[.int .i64 0, .int .i64 0] rfl rfl rfl rfl rfl ?_; clear HS; intro w1 HS; have f1_ := HS.out.c 3 0 (v := .int .i64 e.1) rfl rfl; have f2_ := HS.out.c 3 1 (v := .int .i64 e.2) rfl rfl; have f3_ := HS.out.c 0 0 (v := .int .i64 0) rfl rfl; have f4_ := HS.out.c 0 1 (v := .int .i64 0) rfl rfl) | (go_at_call 122; refine (HQ.out _).mono ?_; rintro e_ w1 ⟨rfl, hb⟩; replace HS := sB HS hb; clear hb f1_ f2_ f3_ f4_) | ((with_reducible refine gate_dst (N := 16) rfl ?_); refine bxL 34 #[(.int .i64 0), (.int .i64 0)] HS ?_; clear HS; intro g_nx w1 hg_nx HS) | ((with_reducible refine gate_store (t := 34) (p := 16) rfl ?_); refine stL HS 0 0 #[.int .i64 0, .int .i64 0] rfl rfl rfl rfl rfl ?_; clear HS; intro w1 HS) | ((with_reducible refine gate_store (t := 26) (p := 4) rfl ?_); refine stL HS 8 0 #[(.int .i64 0), (.int .i64 0), (.slice none 0 0)] rfl rfl rfl rfl rfl ?_; clear HS; intro w1 HS))
                    refine bodyPost_ret (results_cell_tmp_row rfl _ _ g_r 26 #[(.int .i64 0), (.int .i64 0), (.slice none 0 0)] (0, 0) _ rfl (HS.out.at (i := 8) rfl) Try.underlying26 rfl (by kernel_rfl)) rfl ?_
                    have e_ : putsS [] (timesU (co l) (co l2) (allW d n)) = none := mul_fail (k := k + 1) hlt HW.out (by omega) HN.out
                    rw [e_]
                    exact ⟨none, 0, rfl, nilS (HS.out.sel [] (by decide))⟩
                  | some v =>
                    have hvf := hof v rfl
                    clear hof
                    obtain ⟨q, hq⟩ : ∃ q, q = add e v := ⟨_, rfl⟩
                    have HQ := Aside0.mk (fun W => hq ▸ specPlus e.1 e.2 v.1 v.2 W (fr_small HFE.out) (fr_small hvf))
                    have HQF := Aside0.mk (fun c (hc : q = some c) => add_fr (hq.symm.trans hc))
                    have HN2 := Aside0.mk (HN.out.trans (show ((some v).bind fun p => Option.map (fun c => z ++ tl s c) (add e p)) = q.map fun c => z ++ tl s c by rw [hq]; rfl))
                    clear hq hvf HN
                    cases q with
                    | none =>
                      have f1_ := HS.out.c 1 0 (v := .int .i64 x.1) rfl rfl
                      have f2_ := HS.out.c 1 1 (v := .int .i64 x.2) rfl rfl
                      have tk3_ : True := trivial
                      go_wp2_with (first | (go_at_call 108; clear tk3_; refine (specZero _ _ _).mono ?_; rintro e_ w1 ⟨rfl, hb⟩; replace HS := sB HS hb; clear hb f1_ f2_; have f1_ := HS.out.c 0 0 (v := .int .i64 y.1) rfl rfl; have f2_ := HS.out.c 0 1 (v := .int .i64 y.2) rfl rfl) | (go_at_call 108; refine (specZero _ _ _).mono ?_; rintro e_ w1 ⟨rfl, hb⟩; replace HS := sB HS hb; clear hb f1_ f2_; have f1_ := HS.out.c 1 0 (v := .int .i64 x.1) rfl rfl; have f2_ := HS.out.c 1 1 (v := .int .i64 x.2) rfl rfl; have f3_ := HS.out.c 0 0 (v := .int .i64 y.1) rfl rfl; have f4_ := HS.out.c 0 1 (v := .int .i64 y.2) rfl rfl) | (go_at_call 121; refine (HP.out _).mono ?_; rintro e_ w1 ⟨rfl, hb⟩; replace HS := sB HS hb; clear hb f1_ f2_ f3_ f4_) | ((with_reducible refine gate_dst (N := 14) rfl ?_); refine bxL 34 #[(.int .i64 0), (.int .i64 0)] HS ?_; clear HS; intro g_pr w1 hg_pr HS) | ((with_reducible refine gate_store (t := 34) (p := 14) rfl ?_); refine stL HS 0 0 #[.int .i64 v.1, .int .i64 v.2] rfl rfl rfl rfl rfl ?_; clear HS; intro w1 HS; have f1_ := HS.out.c 3 0 (v := .int .i64 e.1) rfl rfl; have f2_ := HS.out.c 3 1 (v := .int .i64 e.2) rfl rfl; have f3_ := HS.out.c 0 0 (v := .int .i64 v.1) rfl rfl; have f4_ := HS.out.c 0 1 (v := .int .i64 v.2) rfl rfl) | (go_at_call 122; refine (HQ.out _).mono ?_; rintro e_ w1 ⟨rfl, hb⟩; replace HS := sB HS hb; clear hb f1_ f2_ f3_ f4_) | ((with_reducible refine gate_dst (N := 16) rfl ?_); refine bxL 34 #[(.int .i64 0), (.int .i64 0)] HS ?_; clear HS; intro g_nx w1 hg_nx HS) | ((with_reducible refine gate_store (t := 34) (p := 16) rfl ?_); refine stL HS 0 0 #[.int .i64 0, .int .i64 0] rfl rfl rfl rfl rfl ?_; clear HS; intro w1 HS) | ((with_reducible refine gate_store (t := 26) (p := 4) rfl ?_); refine stL HS 8 0 #[(.int .i64 0), (.int .i64 0), (.slice none 0 0)] rfl rfl rfl rfl rfl ?_; clear HS; intro w1 HS))
                      refine bodyPost_ret (results_cell_tmp_row rfl _ _ g_r 26 #[(.int .i64 0), (.int .i64 0), (.slice none 0 0)] (0, 0) _ rfl (HS.out.at (i := 8) rfl) Try.underlying26 rfl (by kernel_rfl)) rfl ?_
                      have e_ : putsS [] (timesU (co l) (co l2) (allW d n)) = none := mul_fail (k := k + 1) hlt HW.out (by omega) HN2.out
                      rw [e_]
                      exact ⟨none, 0, rfl, nilS (HS.out.sel [] (by decide))⟩
                    | some f =>
                      have f1_ := HS.out.c 1 0 (v := .int .i64 x.1) rfl rfl
                      have f2_ := HS.out.c 1 1 (v := .int .i64 x.2) rfl rfl
                      have tk4_ : True := trivial
                      go_wp2_with (first | (go_at_call 108; clear tk4_; refine (specZero _ _ _).mono ?_; rintro e_ w1 ⟨rfl, hb⟩; replace HS := sB HS hb; clear hb f1_ f2_; have f1_ := HS.out.c 0 0 (v := .int .i64 y.1) rfl rfl; have f2_ := HS.out.c 0 1 (v := .int .i64 y.2) rfl rfl) | (go_at_call 108; refine (specZero _ _ _).mono ?_; rintro e_ w1 ⟨rfl, hb⟩; replace HS := sB HS hb; clear hb f1_ f2_; have f1_ := HS.out.c 1 0 (v := .int .i64 x.1) rfl rfl; have f2_ := HS.out.c 1 1 (v := .int .i64 x.2) rfl rfl; have f3_ := HS.out.c 0 0 (v := .int .i64 y.1) rfl rfl; have f4_ := HS.out.c 0 1 (v := .int .i64 y.2) rfl rfl) | (go_at_call 121; refine (HP.out _).mono ?_; rintro e_ w1 ⟨rfl, hb⟩; replace HS := sB HS hb; clear hb f1_ f2_ f3_ f4_) | ((with_reducible refine gate_dst (N := 14) rfl ?_); refine bxL 34 #[(.int .i64 0), (.int .i64 0)] HS ?_; clear HS; intro g_pr w1 hg_pr HS) | ((with_reducible refine gate_store (t := 34) (p := 14) rfl ?_); refine stL HS 0 0 #[.int .i64 v.1, .int .i64 v.2] rfl rfl rfl rfl rfl ?_; clear HS; intro w1 HS; have f1_ := HS.out.c 3 0 (v := .int .i64 e.1) rfl rfl; have f2_ := HS.out.c 3 1 (v := .int .i64 e.2) rfl rfl; have f3_ := HS.out.c 0 0 (v := .int .i64 v.1) rfl rfl; have f4_ := HS.out.c 0 1 (v := .int .i64 v.2) rfl rfl) | (go_at_call 122; refine (HQ.out _).mono ?_; rintro e_ w1 ⟨rfl, hb⟩; replace HS := sB HS hb; clear hb f1_ f2_ f3_ f4_) | ((with_reducible refine gate_dst (N := 16) rfl ?_); refine bxL 34 #[(.int .i64 0), (.int .i64 0)] HS ?_; clear HS; intro g_nx w1 hg_nx HS) | ((with_reducible refine gate_store (t := 34) (p := 16) rfl ?_); refine stL HS 0 0 #[.int .i64 f.1, .int .i64 f.2] rfl rfl rfl rfl rfl ?_; clear HS; intro w1 HS; have f1_ := HS.out.c 0 0 (v := .int .i64 f.1) rfl rfl; have f2_ := HS.out.c 0 1 (v := .int .i64 f.2) rfl rfl) | ((with_reducible refine gate_store (t := 34) (p := 10) rfl ?_); refine stL HS 4 0 #[.int .i64 f.1, .int .i64 f.2] rfl rfl rfl rfl rfl ?_; clear HS f1_ f2_; intro w1 HS))
                      replace HS : Aside0 (Mod _ _ _ [_, _, _, _, _, _, _]) := sX HS [4, 5, 6, 7, 8, 9, 10]
                      go_roundw
                      case rel => exact ⟨k + 1, f, by omega, by go_num, ⟨HN2.out⟩, ⟨HQF.out f rfl⟩, HS⟩
                      case measure => simp [intOf]; omega
            · obtain rfl : k = s.size + 1 := by omega
              have HN := Aside0.mk ((times_word HW.out).symm ▸ HK.out : putsS [] (timesU (co l) (co l2) (allU d m ++ (wordsN d m).take (i + 1))) = some (z ++ tl s e))
              by_cases he : e.1 = 0
              · have heb : (e.1 == 0) = true := by rw [he]; rfl
                have HT := Aside0.mk (show z ++ tl s e = z by unfold tl; rw [if_pos he, List.append_nil])
                clear he
                have f1_ := HS.out.str 1 rfl HE.out
                have f2_ := HS.out.c 0 0 (v := .int .i64 e.1) rfl rfl
                have f3_ := HS.out.c 0 1 (v := .int .i64 e.2) rfl rfl
                go_wp2_with (first | (go_at_call 108; refine (specZero _ _ _).mono ?_; rintro e_ w1 ⟨rfl, hb⟩; replace HS := sB HS hb; clear hb f1_ f2_ f3_))
                replace HS : Aside0 (Mod _ _ _ [_, _, _, _, _, _]) := sX HS [1, 2, 3, 4, 5, 6]
                go_roundw
                case rel => exact ⟨i + 1, B, b, z, by omega, by go_num, by omega, ⟨HT.out ▸ HN.out⟩, HS⟩
                case measure => simp [intOf]; omega
              · have heb : (e.1 == 0) = false := by simpa using he
                have HT := Aside0.mk (show z ++ tl s e = z ++ [(s, e)] by unfold tl; rw [if_neg he])
                clear he
                have f1_ := HS.out.str 1 rfl HE.out
                have f2_ := HS.out.c 0 0 (v := .int .i64 e.1) rfl rfl
                have f3_ := HS.out.c 0 1 (v := .int .i64 e.2) rfl rfl
                go_wp2_with (first | (go_at_call 108; refine (specZero _ _ _).mono ?_; rintro e_ w1 ⟨rfl, hb⟩; replace HS := sB HS hb; clear hb f1_ f2_ f3_))
                replace HS := sD HS
                refine ps (.p 0 (.p 2 (.p 3 (.p 4 (.t 1 (.t 5 (.t 6 (.p 7 (.e 8 (.d 9 (.p 10 (.d 11 .done)))))))))))) (fun w' => w'.cell? ⟨g_q, 2, none⟩ = some (.slice B z.length b) ∧ w'.cell? (ad.add i) = some (.string s) ∧ w'.cell? ⟨g_sm, 0, none⟩ = some (.int .i64 e.1) ∧ w'.cell? ⟨g_sm, 1, none⟩ = some (.int .i64 e.2)) [9, 11] ⟨HS.out.c 2 2 (v := .slice B z.length b) rfl rfl, HS.out.str 1 rfl HE.out, HS.out.c 0 0 (v := .int .i64 e.1) rfl rfl, HS.out.c 0 1 (v := .int .i64 e.2) rfl rfl⟩ (fun hHeld => ?_)
                repeat (first | ((with_reducible refine gate_p ?_); refine rp rfl rfl ?_) | ((with_reducible refine gate_t ?_); refine rt rfl rfl hHeld ?_))
                refine run_e rfl (fun K hK => ?_)
                refine stp_lit (KT) rfl 38 (by rfl) HS (xs := [((s, e) : Tm)]) (inner := [.string s, .int .i64 e.1, .int .i64 e.2]) (by first | (go_simp; done) | (go_simp; rfl)) (fun W base ok => Reps.snoc (Reps.none _ _) (KT_M (s, e) W base ok) rfl) (by simp) ?_
                clear HS
                intro A_k c_k w1 HS
                refine ge hK ⟨HS.out.c 3 2 (v := .slice B z.length b) rfl rfl, HS.out.str 2 rfl HE.out, HS.out.c 1 0 (v := .int .i64 e.1) rfl rfl, HS.out.c 1 1 (v := .int .i64 e.2) rfl rfl⟩ (fun hHeld => ?_)
                clear hK K
                refine run_d rfl (fun K hK => ?_)
                refine stp_rows KT rfl (fun _ _ _ _ _ h => h) (by rfl) HS 4 rfl (.tmp 92) (.tmp 99) 24 (.agg #[(.string ⟨#[]⟩), (.int .i64 0), (.int .i64 0)]) 32 rfl Try.underlying24 infoTerm (by kernel_rfl) [((s, e) : Tm)] rfl rfl (HS.out.reads 0 rfl) (by show (z.length + 1) * 32 ≤ _; omega) ?_
                clear HS
                intro A_y' c_y' y' w1 Ny' HS
                simp only [List.set_cons_zero, List.set_cons_succ] at HS
                refine gd hK ?_
                clear hK K
                repeat (first | ((with_reducible refine gate_p ?_); refine rp rfl rfl ?_) | ((with_reducible refine gate_t ?_); refine rt rfl rfl hHeld ?_))
                refine run_d rfl (fun K hK => ?_)
                refine st1 HS 3 2 #[.int .i64 (d : Int), .int .i64 (n : Int), (.slice A_y' y'.length c_y')] rfl rfl rfl rfl rfl ?_
                clear HS
                intro w1 HS
                refine goD hK rfl ?_
                clear hK K
                refine run_done ?_
                clear hHeld
                go_wp2
                replace HS : Aside0 (Mod _ _ _ [_, _, _, _, _, _]) := sX HS [2, 3, 4, 5, 6, 7]
                go_roundw
                case rel => exact ⟨i + 1, A_y', c_y', y', by omega, by go_num, by rw [Ny'.out, List.length_append]; simp; omega, ⟨by rw [Ny'.out, ← HT.out]; exact HN.out⟩, HS⟩
                case measure => simp [intOf]; omega
        · obtain rfl : i = u.length := by omega
          go_wp2
          replace HS : Aside0 (Mod _ _ _ [_, _, _, _, _]) := sX HS [1, 2, 3, 4, 5]
          go_roundw
          case rel => exact ⟨m + 1, B, b, z, by omega, by go_num, by omega, ⟨by have h := HZ.out; rw [HU.out, times_row] at h; exact h⟩, HS⟩
          case measure => simp [intOf]; omega
    · obtain rfl : m = n + 1 := by omega
      have f1_ := HS.out.c 4 1 (v := .int .i64 (n : Int)) rfl rfl
      have f2_ := HS.out.c 0 0 (v := .int .i64 (d : Int)) rfl rfl
      have f3_ := HS.out.c 0 1 (v := .int .i64 (n : Int)) rfl rfl
      have f4_ := HS.out.c 0 2 (v := .slice B z.length b) rfl rfl
      go_wp2_with (first | ((with_reducible refine gate_store (t := 26) (p := 4) rfl ?_); refine stL HS 2 0 #[.int .i64 (d : Int), .int .i64 (n : Int), .slice B z.length b] rfl rfl rfl rfl rfl ?_; clear HS f1_ f2_ f3_ f4_; intro w1 HS))
      refine bodyPost_ret (results_cell_tmp_row rfl _ _ g_r 26 #[.int .i64 (d : Int), .int .i64 (n : Int), .slice B z.length b] (0, 0) _ rfl (HS.out.at (i := 2) rfl) Try.underlying26 rfl (by kernel_rfl)) rfl ?_
      have e_ : putsS [] (timesU (co l) (co l2) (allW d n)) = some z := HZ.out
      rw [e_]
      exact ⟨B, b, rfl, HS.out.sel [1] (by decide)⟩
end Go.Proofs.Ytibjkjhpfmmjoaa.H



namespace Go.Proofs.Ytibjkjhpfmmjoaa.H
open Go.RowKit Go.Proofs.YtibjkjhpfmmjoaaW.PrintWords Go.Proofs.YtibjkjhpfmmjoaaW.PrintLast Go.Proofs.YtibjkjhpfmmjoaaW.PrintMore Go.Proofs.Ytibjkjhpfmmjoaa.M
attribute [local go_sem] max2_int min2_int max_two min_two max_three min_three max_four min_four
set_option linter.unusedVariables false
set_option linter.unusedSimpArgs false
set_option maxRecDepth 100000
theorem stp_put_ix {P : Program} {ops : Array Oper} {o : Oper} {a : Act} {Q : Exit → Act → World → Prop} {Kc : Act → World → Prop} {w W : World} {S : Nat → Prop} {L : List As}
    (hw : Region.wanted o (yielded ops a.tmps) = true) (hN : o.dst = none) {ty : TypeId} {x y : Operand} (ho : o.op = .store ty x y) (HS : Aside0 (Mod w W S L)) (i : Nat) {v d n k : Nat} {f : ByteArray → Fr} (hi : L[i]? = some (tV v d n f)) (s : ByteArray) (hd : d ≤ 9) (hk : (allW d n)[k]? = some s) (c : Fr)
    (hx : a.eval x = .pointer (some ⟨v, k * 2, none⟩)) (hy : a.eval y = .agg #[.int .i64 c.1, .int .i64 c.2]) (hsz : (P.info? ty).map (·.size) = some 2) (h : ∀ w1, Aside0 (Mod w w1 S (L.set i (tV v d n (upd f s c)))) → Kc a w1) : Stp P ops Q o a W Kc :=
  stp_put_tab hw hN ho HS i hi s hd (num_at hd hk).1 (num_at hd hk).2.1 (num_at hd hk).2.2 c hx hy hsz h
set_option maxHeartbeats 8000000 in
theorem implScaled (g v d n : Nat) (bad : Bool) (f : ByteArray → Fr) (a : Fr) (w : World) (hl : lev d n = true) (ht : (tS g v d n (nW d n) bad).I w) (hv : (tV v d n f).I w) (hf : good f) (ha : fr a = true) :
    Calls Try.prog 123 #[.pointer (some ⟨g, 0, none⟩), .agg #[.int .i64 a.1, .int .i64 a.2]] w fun e w' =>
      ∃ g' v', e = .returned (.pointer (some ⟨g', 0, none⟩)) ∧ Sep w w' [tS g' v' d n (nW d n) (mapT d n (fun s => mul (f s) a) bad (nW d n)).2, tV v' d n (mapT d n (fun s => mul (f s) a) bad (nW d n)).1] := by
  obtain ⟨hd1, hd3, hn1, hn5⟩ := lev_bd hl
  have hNl := nW_le hl
  have HT := Aside0.mk ht
  have HV := Aside0.mk hv
  have HL := Aside0.mk hl
  have HF := Aside0.mk hf
  have HA := Aside0.mk ha
  have HG := Aside0.mk (fun k (h : k < nW d n) => (⟨_, List.getElem?_eq_getElem h⟩ : ∃ s, (allW d n)[k]? = some s))
  clear ht hv hl hf ha
  have CK := fun g W h => implLike g v d n (nW d n) bad W HL.out h
  have HCK := Aside0.mk CK
  clear CK
  obtain ⟨N, hN⟩ : ∃ N, N = nW d n := ⟨_, rfl⟩
  rw [← hN] at HT HG hNl HCK
  rw [← hN]
  clear hN
  obtain ⟨h, hh⟩ : ∃ h : ByteArray → Option Fr, h = fun s => mul (f s) a := ⟨_, rfl⟩
  rw [← hh]
  have HH := Aside0.mk hh
  clear hh
  have HS := Aside0.mk (Sep.refl w)
  go_enter Try.func123, Try.ntmps123
  go_wp2_with (first | ((with_reducible refine gate_dst (N := 3) rfl ?_); refine bxL 34 #[.int .i64 a.1, .int .i64 a.2] HS ?_; clear HS; intro g_b w1 hg_b HS) | (go_at_call 114; refine (HCK.out _ _ (HS.out.oldI HT.out)).mono ?_; rintro e_ w1 ⟨g', v', rfl, hs⟩; replace HS := sN2 HS hs; clear hs; have f1_ := bx_c (HS.out.oldI HT.out) 3 (v := .bool bad) rfl) | ((with_reducible refine gate_store (t := 4) (p := 16) rfl ?_); refine stL HS 0 3 #[.int .i64 (d : Int), .int .i64 (n : Int), .slice (some ⟨v', 0, none⟩) N N, (.bool bad)] rfl rfl rfl rfl rfl ?_; clear HS f1_; intro w1 HS; have f1_ := bx_c (HS.out.oldI HT.out) 2 (v := .slice (some ⟨v, 0, none⟩) N N) rfl))
  go_loopw [22] (fun q w' => ∃ (i : Nat) (F : Tb), i ≤ N ∧ q = .int .i64 (i : Int) ∧ Aside0 (F = mapT d n h bad i) ∧ Aside0 (Mod w w' No [bx g' 92 #[.int .i64 (d : Int), .int .i64 (n : Int), .slice (some ⟨v', 0, none⟩) N N, .bool F.2], tV v' d n F.1, bx g_b 34 #[.int .i64 a.1, .int .i64 a.2]])) (fun q _ => N - (intOf q).toNat)
  case atStart => exact ⟨0, ((fun _ => (0, 1)), bad), by omega, rfl, ⟨rfl⟩, HS⟩
  case round =>
    clear HS
    obtain ⟨i, F, hi, rfl, HM, HS⟩ := hrel
    by_cases hlt : i < N
    · obtain ⟨s, hs⟩ := HG.out i hlt
      have HE := Aside0.mk hs
      have HP := Aside0.mk (fun W => (congrFun HH.out s) ▸ implTimesF (f s) a W (HF.out s) HA.out)
      clear hs
      have hq0 : (0 : Int) ≤ i := by omega
      have f1_ := (tab_ix (HS.out.oldI HV.out) HE.out).1
      have f2_ := (tab_ix (HS.out.oldI HV.out) HE.out).2
      go_wp2_with (first | ((with_reducible refine gate_dst (N := 7) rfl ?_); refine bxL 34 #[(.int .i64 0), (.int .i64 0)] HS ?_; clear HS f1_ f2_; intro g_y w1 hg_y HS) | ((with_reducible refine gate_store (t := 34) (p := 7) rfl ?_); refine stL HS 0 0 #[.int .i64 (f s).1, .int .i64 (f s).2] rfl rfl rfl rfl rfl ?_; clear HS; intro w1 HS))
      replace HS := sD HS
      refine ps (.p 0 (.p 1 (.p 2 (.p 4 (.p 5 (.t 3 (.t 6 (.t 7 (.e 8 (.p 9 (.p 10 (.e 11 (.p 12 (.d 13 .done)))))))))))))) (fun w' => w'.cell? ⟨g', 2, none⟩ = some (.slice (some ⟨v', 0, none⟩) N N) ∧ w'.cell? ⟨g_y, 0, none⟩ = some (.int .i64 (f s).1) ∧ w'.cell? ⟨g_y, 1, none⟩ = some (.int .i64 (f s).2) ∧ w'.cell? ⟨g_b, 0, none⟩ = some (.int .i64 a.1) ∧ w'.cell? ⟨g_b, 1, none⟩ = some (.int .i64 a.2)) [13] ⟨HS.out.c 1 2 (v := .slice (some ⟨v', 0, none⟩) N N) rfl rfl, HS.out.c 0 0 (v := .int .i64 (f s).1) rfl rfl, HS.out.c 0 1 (v := .int .i64 (f s).2) rfl rfl, HS.out.c 3 0 (v := .int .i64 a.1) rfl rfl, HS.out.c 3 1 (v := .int .i64 a.2) rfl rfl⟩ (fun hHeld => ?_)
      repeat (first | ((with_reducible refine gate_p ?_); refine rp rfl rfl ?_) | ((with_reducible refine gate_t ?_); refine rt rfl rfl hHeld ?_))
      refine run_e rfl (fun K hK => ?_)
      refine gc Try.func129 (HP.out _) rfl rfl ?_
      rintro e_ w1 ⟨x, y, hxy, rfl, hb⟩
      refine ⟨_, rfl, ?_⟩
      replace HS := sB HS hb
      clear hb
      refine ge hK ⟨HS.out.c 1 2 (v := .slice (some ⟨v', 0, none⟩) N N) rfl rfl, HS.out.c 0 0 (v := .int .i64 (f s).1) rfl rfl, HS.out.c 0 1 (v := .int .i64 (f s).2) rfl rfl, HS.out.c 3 0 (v := .int .i64 a.1) rfl rfl, HS.out.c 3 1 (v := .int .i64 a.2) rfl rfl⟩ (fun hHeld => ?_)
      clear hK K
      repeat (first | ((with_reducible refine gate_p ?_); refine rp rfl rfl ?_) | ((with_reducible refine gate_t ?_); refine rt rfl rfl hHeld ?_))
      refine run_e rfl (fun K hK => ?_)
      refine gc Try.func128 (implCheckO g' v' d n N F.2 (h s) x y hxy _ (HS.out.at (i := 1) rfl)) rfl rfl ?_
      rintro e_ w1 ⟨rfl, hs⟩
      refine ⟨_, rfl, ?_⟩
      replace HS : Aside0 (Mod _ _ _ [_, _, _, _]) := sM1 HS 1 [0, 2, 3] rfl hs
      clear hs
      refine ge hK ⟨HS.out.c 0 2 (v := .slice (some ⟨v', 0, none⟩) N N) rfl rfl, HS.out.c 1 0 (v := .int .i64 (f s).1) rfl rfl, HS.out.c 1 1 (v := .int .i64 (f s).2) rfl rfl, HS.out.c 3 0 (v := .int .i64 a.1) rfl rfl, HS.out.c 3 1 (v := .int .i64 a.2) rfl rfl⟩ (fun hHeld => ?_)
      clear hK K
      repeat (first | ((with_reducible refine gate_p ?_); refine rp rfl rfl ?_) | ((with_reducible refine gate_t ?_); refine rt rfl rfl hHeld ?_))
      refine run_d rfl (fun K hK => ?_)
      refine stp_put_ix (by rfl) rfl rfl HS 2 rfl s (by omega) HE.out (orZ (h s)) rfl rfl (by kernel_rfl) ?_
      clear HS
      intro w1 HS
      simp only [List.set_cons_zero, List.set_cons_succ] at HS
      refine goD hK rfl ?_
      clear hK K
      refine run_done ?_
      clear hHeld
      go_wp2
      replace HS : Aside0 (Mod _ _ _ [_, _, _]) := sX HS [0, 2, 3]
      have n_ := HS.out.sel [0, 1, 2] (by decide)
      simp only [List.filterMap_cons, List.filterMap_nil, List.getElem?_cons_zero, List.getElem?_cons_succ] at n_
      go_roundw
      case rel => exact ⟨i + 1, mapS h F s, by omega, by go_num, ⟨by rw [mapT_succ HE.out, HM.out]⟩, ⟨n_⟩⟩
      case measure => simp [intOf]; omega
    · obtain rfl : i = N := by omega
      go_wp2
      go_ret
      obtain rfl := HM.out
      have n_ := HS.out.sel [0, 1] (by decide)
      simp only [List.filterMap_cons, List.filterMap_nil, List.getElem?_cons_zero, List.getElem?_cons_succ] at n_
      exact ⟨g', v', rfl, n_⟩
set_option maxHeartbeats 8000000 in
theorem implSum_true (g1 v1 g2 v2 d n : Nat) (bad2 : Bool) (f1 f2 : ByteArray → Fr) (w : World) (hl : lev d n = true) (ht1 : (tS g1 v1 d n (nW d n) true).I w) (hv1 : (tV v1 d n f1).I w) (ht2 : (tS g2 v2 d n (nW d n) bad2).I w) (hv2 : (tV v2 d n f2).I w) (hf1 : good f1) (hf2 : good f2) :
    Calls Try.prog 98 #[.pointer (some ⟨g1, 0, none⟩), .pointer (some ⟨g2, 0, none⟩)] w fun e w' =>
      ∃ g' v', e = .returned (.pointer (some ⟨g', 0, none⟩)) ∧ Sep w w' [tS g' v' d n (nW d n) (mapT d n (fun s => add (f1 s) (f2 s)) true (nW d n)).2, tV v' d n (mapT d n (fun s => add (f1 s) (f2 s)) true (nW d n)).1] := by
  obtain ⟨hd1, hd3, hn1, hn5⟩ := lev_bd hl
  have hNl := nW_le hl
  have HT1 := Aside0.mk ht1
  have HV1 := Aside0.mk hv1
  have HT2 := Aside0.mk ht2
  have HV2 := Aside0.mk hv2
  have HL := Aside0.mk hl
  have HF1 := Aside0.mk hf1
  have HF2 := Aside0.mk hf2
  have HG := Aside0.mk (fun k (h : k < nW d n) => (⟨_, List.getElem?_eq_getElem h⟩ : ∃ s, (allW d n)[k]? = some s))
  clear ht1 hv1 ht2 hv2 hl hf1 hf2
  have CK := fun g W h => implLike g v1 d n (nW d n) true W HL.out h
  have HCK := Aside0.mk CK
  clear CK
  obtain ⟨N, hN⟩ : ∃ N, N = nW d n := ⟨_, rfl⟩
  rw [← hN] at HT1 HT2 HG hNl HCK
  rw [← hN]
  clear hN
  obtain ⟨h, hh⟩ : ∃ h : ByteArray → Option Fr, h = fun s => add (f1 s) (f2 s) := ⟨_, rfl⟩
  rw [← hh]
  have HH := Aside0.mk hh
  clear hh
  have HS := Aside0.mk (Sep.refl w)
  go_enter Try.func98, Try.ntmps98
  go_wp2_with (first | (go_at_call 114; refine (HCK.out _ _ (HS.out.oldI HT1.out)).mono ?_; rintro e_ w1 ⟨g', v', rfl, hs⟩; replace HS := sN2 HS hs; clear hs; have f1_ := bx_c (HS.out.oldI HT1.out) 3 (v := .bool true) rfl) | ((with_reducible refine gate_store (t := 4) (p := 22) rfl ?_); refine stL HS 0 3 #[.int .i64 (d : Int), .int .i64 (n : Int), .slice (some ⟨v', 0, none⟩) N N, (.bool true)] rfl rfl rfl rfl rfl ?_; clear HS f1_; intro w1 HS; have f1_ := bx_c (HS.out.oldI HT1.out) 2 (v := .slice (some ⟨v1, 0, none⟩) N N) rfl))
  go_loopw [28] (fun q w' => ∃ (i : Nat) (F : Tb), i ≤ N ∧ q = .int .i64 (i : Int) ∧ Aside0 (F = mapT d n h true i) ∧ Aside0 (Mod w w' No [bx g' 92 #[.int .i64 (d : Int), .int .i64 (n : Int), .slice (some ⟨v', 0, none⟩) N N, .bool F.2], tV v' d n F.1])) (fun q _ => N - (intOf q).toNat)
  case atStart => exact ⟨0, ((fun _ => (0, 1)), true), by omega, rfl, ⟨rfl⟩, HS⟩
  case round =>
    clear HS
    obtain ⟨i, F, hi, rfl, HM, HS⟩ := hrel
    by_cases hlt : i < N
    · obtain ⟨s, hs⟩ := HG.out i hlt
      have HE := Aside0.mk hs
      have HP := Aside0.mk (fun W => (congrFun HH.out s) ▸ implPlusF (f1 s) (f2 s) W (HF1.out s) (HF2.out s))
      clear hs
      have hq0 : (0 : Int) ≤ i := by omega
      have f1_ := (tab_ix (HS.out.oldI HV1.out) HE.out).1
      have f2_ := (tab_ix (HS.out.oldI HV1.out) HE.out).2
      go_wp2_with (first | ((with_reducible refine gate_dst (N := 7) rfl ?_); refine bxL 34 #[(.int .i64 0), (.int .i64 0)] HS ?_; clear HS f1_ f2_; intro g_y w1 hg_y HS) | ((with_reducible refine gate_store (t := 34) (p := 7) rfl ?_); refine stL HS 0 0 #[.int .i64 (f1 s).1, .int .i64 (f1 s).2] rfl rfl rfl rfl rfl ?_; clear HS; intro w1 HS))
      replace HS := sD HS
      refine ps (.p 0 (.p 1 (.p 2 (.p 4 (.p 5 (.p 7 (.p 8 (.p 9 (.p 11 (.t 3 (.t 6 (.t 10 (.p 12 (.t 13 (.e 14 (.p 15 (.p 16 (.e 17 (.p 18 (.d 19 .done)))))))))))))))))))) (fun w' => w'.cell? ⟨g', 2, none⟩ = some (.slice (some ⟨v', 0, none⟩) N N) ∧ w'.cell? ⟨g_y, 0, none⟩ = some (.int .i64 (f1 s).1) ∧ w'.cell? ⟨g_y, 1, none⟩ = some (.int .i64 (f1 s).2) ∧ w'.cell? ⟨g2, 2, none⟩ = some (.slice (some ⟨v2, 0, none⟩) N N) ∧ w'.cell? ⟨v2, i * 2, none⟩ = some (.int .i64 (f2 s).1) ∧ w'.cell? ⟨v2, i * 2 + 1, none⟩ = some (.int .i64 (f2 s).2)) [19] ⟨HS.out.c 1 2 (v := .slice (some ⟨v', 0, none⟩) N N) rfl rfl, HS.out.c 0 0 (v := .int .i64 (f1 s).1) rfl rfl, HS.out.c 0 1 (v := .int .i64 (f1 s).2) rfl rfl, bx_c (HS.out.oldI HT2.out) 2 (v := .slice (some ⟨v2, 0, none⟩) N N) rfl, (tab_ix (HS.out.oldI HV2.out) HE.out).1, (tab_ix (HS.out.oldI HV2.out) HE.out).2⟩ (fun hHeld => ?_)
      repeat (first | ((with_reducible refine gate_p ?_); refine rp rfl rfl ?_) | ((with_reducible refine gate_t ?_); refine rt rfl rfl hHeld ?_))
      refine run_e rfl (fun K hK => ?_)
      refine gc Try.func135 (HP.out _) rfl rfl ?_
      rintro e_ w1 ⟨x, y, hxy, rfl, hb⟩
      refine ⟨_, rfl, ?_⟩
      replace HS := sB HS hb
      clear hb
      refine ge hK ⟨HS.out.c 1 2 (v := .slice (some ⟨v', 0, none⟩) N N) rfl rfl, HS.out.c 0 0 (v := .int .i64 (f1 s).1) rfl rfl, HS.out.c 0 1 (v := .int .i64 (f1 s).2) rfl rfl, bx_c (HS.out.oldI HT2.out) 2 (v := .slice (some ⟨v2, 0, none⟩) N N) rfl, (tab_ix (HS.out.oldI HV2.out) HE.out).1, (tab_ix (HS.out.oldI HV2.out) HE.out).2⟩ (fun hHeld => ?_)
      clear hK K
      repeat (first | ((with_reducible refine gate_p ?_); refine rp rfl rfl ?_) | ((with_reducible refine gate_t ?_); refine rt rfl rfl hHeld ?_))
      refine run_e rfl (fun K hK => ?_)
      refine gc Try.func128 (implCheckO g' v' d n N F.2 (h s) x y hxy _ (HS.out.at (i := 1) rfl)) rfl rfl ?_
      rintro e_ w1 ⟨rfl, hs⟩
      refine ⟨_, rfl, ?_⟩
      replace HS : Aside0 (Mod _ _ _ [_, _, _]) := sM1 HS 1 [0, 2] rfl hs
      clear hs
      refine ge hK ⟨HS.out.c 0 2 (v := .slice (some ⟨v', 0, none⟩) N N) rfl rfl, HS.out.c 1 0 (v := .int .i64 (f1 s).1) rfl rfl, HS.out.c 1 1 (v := .int .i64 (f1 s).2) rfl rfl, bx_c (HS.out.oldI HT2.out) 2 (v := .slice (some ⟨v2, 0, none⟩) N N) rfl, (tab_ix (HS.out.oldI HV2.out) HE.out).1, (tab_ix (HS.out.oldI HV2.out) HE.out).2⟩ (fun hHeld => ?_)
      clear hK K
      repeat (first | ((with_reducible refine gate_p ?_); refine rp rfl rfl ?_) | ((with_reducible refine gate_t ?_); refine rt rfl rfl hHeld ?_))
      refine run_d rfl (fun K hK => ?_)
      refine stp_put_ix (by rfl) rfl rfl HS 2 rfl s (by omega) HE.out (orZ (h s)) rfl rfl (by kernel_rfl) ?_
      clear HS
      intro w1 HS
      simp only [List.set_cons_zero, List.set_cons_succ] at HS
      refine goD hK rfl ?_
      clear hK K
      refine run_done ?_
      clear hHeld
      go_wp2
      replace HS : Aside0 (Mod _ _ _ [_, _]) := sX HS [0, 2]
      go_roundw
      case rel => exact ⟨i + 1, mapS h F s, by omega, by go_num, ⟨by rw [mapT_succ HE.out, HM.out]⟩, HS⟩
      case measure => simp [intOf]; omega
    · obtain rfl : i = N := by omega
      go_wp2
      go_ret
      obtain rfl := HM.out
      exact ⟨g', v', rfl, HS.out⟩
set_option maxHeartbeats 8000000 in
theorem implSum_false (g1 v1 g2 v2 d n : Nat) (bad2 : Bool) (f1 f2 : ByteArray → Fr) (w : World) (hl : lev d n = true) (ht1 : (tS g1 v1 d n (nW d n) false).I w) (hv1 : (tV v1 d n f1).I w) (ht2 : (tS g2 v2 d n (nW d n) bad2).I w) (hv2 : (tV v2 d n f2).I w) (hf1 : good f1) (hf2 : good f2) :
    Calls Try.prog 98 #[.pointer (some ⟨g1, 0, none⟩), .pointer (some ⟨g2, 0, none⟩)] w fun e w' =>
      ∃ g' v', e = .returned (.pointer (some ⟨g', 0, none⟩)) ∧ Sep w w' [tS g' v' d n (nW d n) (mapT d n (fun s => add (f1 s) (f2 s)) bad2 (nW d n)).2, tV v' d n (mapT d n (fun s => add (f1 s) (f2 s)) bad2 (nW d n)).1] := by
  obtain ⟨hd1, hd3, hn1, hn5⟩ := lev_bd hl
  have hNl := nW_le hl
  have HT1 := Aside0.mk ht1
  have HV1 := Aside0.mk hv1
  have HT2 := Aside0.mk ht2
  have HV2 := Aside0.mk hv2
  have HL := Aside0.mk hl
  have HF1 := Aside0.mk hf1
  have HF2 := Aside0.mk hf2
  have HG := Aside0.mk (fun k (h : k < nW d n) => (⟨_, List.getElem?_eq_getElem h⟩ : ∃ s, (allW d n)[k]? = some s))
  clear ht1 hv1 ht2 hv2 hl hf1 hf2
  have CK := fun g W h => implLike g v1 d n (nW d n) false W HL.out h
  have HCK := Aside0.mk CK
  clear CK
  obtain ⟨N, hN⟩ : ∃ N, N = nW d n := ⟨_, rfl⟩
  rw [← hN] at HT1 HT2 HG hNl HCK
  rw [← hN]
  clear hN
  obtain ⟨h, hh⟩ : ∃ h : ByteArray → Option Fr, h = fun s => add (f1 s) (f2 s) := ⟨_, rfl⟩
  rw [← hh]
  have HH := Aside0.mk hh
  clear hh
  have HS := Aside0.mk (Sep.refl w)
  go_enter Try.func98, Try.ntmps98
  go_wp2_with (first | (go_at_call 114; refine (HCK.out _ _ (HS.out.oldI HT1.out)).mono ?_; rintro e_ w1 ⟨g', v', rfl, hs⟩; replace HS := sN2 HS hs; clear hs; have f1_ := bx_c (HS.out.oldI HT1.out) 3 (v := .bool false) rfl; have f2_ := bx_c (HS.out.oldI HT2.out) 3 (v := .bool bad2) rfl) | ((with_reducible refine gate_store (t := 4) (p := 22) rfl ?_); refine stL HS 0 3 #[.int .i64 (d : Int), .int .i64 (n : Int), .slice (some ⟨v', 0, none⟩) N N, (.bool bad2)] rfl rfl rfl rfl rfl ?_; clear HS f1_ f2_; intro w1 HS; have f1_ := bx_c (HS.out.oldI HT1.out) 2 (v := .slice (some ⟨v1, 0, none⟩) N N) rfl))
  go_loopw [28] (fun q w' => ∃ (i : Nat) (F : Tb), i ≤ N ∧ q = .int .i64 (i : Int) ∧ Aside0 (F = mapT d n h bad2 i) ∧ Aside0 (Mod w w' No [bx g' 92 #[.int .i64 (d : Int), .int .i64 (n : Int), .slice (some ⟨v', 0, none⟩) N N, .bool F.2], tV v' d n F.1])) (fun q _ => N - (intOf q).toNat)
  case atStart => exact ⟨0, ((fun _ => (0, 1)), bad2), by omega, rfl, ⟨rfl⟩, HS⟩
  case round =>
    clear HS
    obtain ⟨i, F, hi, rfl, HM, HS⟩ := hrel
    by_cases hlt : i < N
    · obtain ⟨s, hs⟩ := HG.out i hlt
      have HE := Aside0.mk hs
      have HP := Aside0.mk (fun W => (congrFun HH.out s) ▸ implPlusF (f1 s) (f2 s) W (HF1.out s) (HF2.out s))
      clear hs
      have hq0 : (0 : Int) ≤ i := by omega
      have f1_ := (tab_ix (HS.out.oldI HV1.out) HE.out).1
      have f2_ := (tab_ix (HS.out.oldI HV1.out) HE.out).2
      go_wp2_with (first | ((with_reducible refine gate_dst (N := 7) rfl ?_); refine bxL 34 #[(.int .i64 0), (.int .i64 0)] HS ?_; clear HS f1_ f2_; intro g_y w1 hg_y HS) | ((with_reducible refine gate_store (t := 34) (p := 7) rfl ?_); refine stL HS 0 0 #[.int .i64 (f1 s).1, .int .i64 (f1 s).2] rfl rfl rfl rfl rfl ?_; clear HS; intro w1 HS))
      replace HS := sD HS
      refine ps (.p 0 (.p 1 (.p 2 (.p 4 (.p 5 (.p 7 (.p 8 (.p 9 (.p 11 (.t 3 (.t 6 (.t 10 (.p 12 (.t 13 (.e 14 (.p 15 (.p 16 (.e 17 (.p 18 (.d 19 .done)))))))))))))))))))) (fun w' => w'.cell? ⟨g', 2, none⟩ = some (.slice (some ⟨v', 0, none⟩) N N) ∧ w'.cell? ⟨g_y, 0, none⟩ = some (.int .i64 (f1 s).1) ∧ w'.cell? ⟨g_y, 1, none⟩ = some (.int .i64 (f1 s).2) ∧ w'.cell? ⟨g2, 2, none⟩ = some (.slice (some ⟨v2, 0, none⟩) N N) ∧ w'.cell? ⟨v2, i * 2, none⟩ = some (.int .i64 (f2 s).1) ∧ w'.cell? ⟨v2, i * 2 + 1, none⟩ = some (.int .i64 (f2 s).2)) [19] ⟨HS.out.c 1 2 (v := .slice (some ⟨v', 0, none⟩) N N) rfl rfl, HS.out.c 0 0 (v := .int .i64 (f1 s).1) rfl rfl, HS.out.c 0 1 (v := .int .i64 (f1 s).2) rfl rfl, bx_c (HS.out.oldI HT2.out) 2 (v := .slice (some ⟨v2, 0, none⟩) N N) rfl, (tab_ix (HS.out.oldI HV2.out) HE.out).1, (tab_ix (HS.out.oldI HV2.out) HE.out).2⟩ (fun hHeld => ?_)
      repeat (first | ((with_reducible refine gate_p ?_); refine rp rfl rfl ?_) | ((with_reducible refine gate_t ?_); refine rt rfl rfl hHeld ?_))
      refine run_e rfl (fun K hK => ?_)
      refine gc Try.func135 (HP.out _) rfl rfl ?_
      rintro e_ w1 ⟨x, y, hxy, rfl, hb⟩
      refine ⟨_, rfl, ?_⟩
      replace HS := sB HS hb
      clear hb
      refine ge hK ⟨HS.out.c 1 2 (v := .slice (some ⟨v', 0, none⟩) N N) rfl rfl, HS.out.c 0 0 (v := .int .i64 (f1 s).1) rfl rfl, HS.out.c 0 1 (v := .int .i64 (f1 s).2) rfl rfl, bx_c (HS.out.oldI HT2.out) 2 (v := .slice (some ⟨v2, 0, none⟩) N N) rfl, (tab_ix (HS.out.oldI HV2.out) HE.out).1, (tab_ix (HS.out.oldI HV2.out) HE.out).2⟩ (fun hHeld => ?_)
      clear hK K
      repeat (first | ((with_reducible refine gate_p ?_); refine rp rfl rfl ?_) | ((with_reducible refine gate_t ?_); refine rt rfl rfl hHeld ?_))
      refine run_e rfl (fun K hK => ?_)
      refine gc Try.func128 (implCheckO g' v' d n N F.2 (h s) x y hxy _ (HS.out.at (i := 1) rfl)) rfl rfl ?_
      rintro e_ w1 ⟨rfl, hs⟩
      refine ⟨_, rfl, ?_⟩
      replace HS : Aside0 (Mod _ _ _ [_, _, _]) := sM1 HS 1 [0, 2] rfl hs
      clear hs
      refine ge hK ⟨HS.out.c 0 2 (v := .slice (some ⟨v', 0, none⟩) N N) rfl rfl, HS.out.c 1 0 (v := .int .i64 (f1 s).1) rfl rfl, HS.out.c 1 1 (v := .int .i64 (f1 s).2) rfl rfl, bx_c (HS.out.oldI HT2.out) 2 (v := .slice (some ⟨v2, 0, none⟩) N N) rfl, (tab_ix (HS.out.oldI HV2.out) HE.out).1, (tab_ix (HS.out.oldI HV2.out) HE.out).2⟩ (fun hHeld => ?_)
      clear hK K
      repeat (first | ((with_reducible refine gate_p ?_); refine rp rfl rfl ?_) | ((with_reducible refine gate_t ?_); refine rt rfl rfl hHeld ?_))
      refine run_d rfl (fun K hK => ?_)
      refine stp_put_ix (by rfl) rfl rfl HS 2 rfl s (by omega) HE.out (orZ (h s)) rfl rfl (by kernel_rfl) ?_
      clear HS
      intro w1 HS
      simp only [List.set_cons_zero, List.set_cons_succ] at HS
      refine goD hK rfl ?_
      clear hK K
      refine run_done ?_
      clear hHeld
      go_wp2
      replace HS : Aside0 (Mod _ _ _ [_, _]) := sX HS [0, 2]
      go_roundw
      case rel => exact ⟨i + 1, mapS h F s, by omega, by go_num, ⟨by rw [mapT_succ HE.out, HM.out]⟩, HS⟩
      case measure => simp [intOf]; omega
    · obtain rfl : i = N := by omega
      go_wp2
      go_ret
      obtain rfl := HM.out
      exact ⟨g', v', rfl, HS.out⟩
theorem implSum (g1 v1 g2 v2 d n : Nat) (bad1 bad2 : Bool) (f1 f2 : ByteArray → Fr) (w : World) (hl : lev d n = true) (ht1 : (tS g1 v1 d n (nW d n) bad1).I w) (hv1 : (tV v1 d n f1).I w) (ht2 : (tS g2 v2 d n (nW d n) bad2).I w) (hv2 : (tV v2 d n f2).I w) (hf1 : good f1) (hf2 : good f2) :
    Calls Try.prog 98 #[.pointer (some ⟨g1, 0, none⟩), .pointer (some ⟨g2, 0, none⟩)] w fun e w' =>
      ∃ g' v', e = .returned (.pointer (some ⟨g', 0, none⟩)) ∧ Sep w w' [tS g' v' d n (nW d n) (mapT d n (fun s => add (f1 s) (f2 s)) (bad1 || bad2) (nW d n)).2, tV v' d n (mapT d n (fun s => add (f1 s) (f2 s)) (bad1 || bad2) (nW d n)).1] := by
  cases bad1 with
  | true => exact implSum_true g1 v1 g2 v2 d n bad2 f1 f2 w hl ht1 hv1 ht2 hv2 hf1 hf2
  | false => exact implSum_false g1 v1 g2 v2 d n bad2 f1 f2 w hl ht1 hv1 ht2 hv2 hf1 hf2
end Go.Proofs.Ytibjkjhpfmmjoaa.H



