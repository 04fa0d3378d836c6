/- Plain facts and contracts of functions that the law's walk uses. Conditions: those that stand in each statement. -/
import Derived.Test.YtibjkjhpfmmjoaaShG2
import Derived.Test.YtibjkjhpfmmjoaaShG6
import Derived.Test.YtibjkjhpfmmjoaaShG5
set_option linter.unusedVariables false
set_option linter.unusedSimpArgs false
namespace Go.Proofs.Ytibjkjhpfmmjoaa.H
open Go.RowKit Go.Proofs.YtibjkjhpfmmjoaaW.PrintWords Go.Proofs.YtibjkjhpfmmjoaaW.PrintLast Go.Proofs.YtibjkjhpfmmjoaaW.PrintMore Go.Proofs.Ytibjkjhpfmmjoaa.M
attribute [local go_sem] max2_int min2_int max_two min_two max_three min_three max_four min_four
set_option linter.unusedVariables false
set_option linter.unusedSimpArgs false
set_option maxRecDepth 100000
set_option maxHeartbeats 16000000 in
theorem implShuffledF (d n : Nat) (hl : lev d n = true) (A : Option Addr) (c : Nat) (l : Ts) (A2 : Option Addr) (cc : Nat) (l2 : Ts) (w : World) (hr : KT.C w A l.length l) (hr2 : KT.C w A2 l2.length l2) (hx : isTs d n l = true) (hy : isTs d n l2 = true) :
    Calls Try.prog 87 #[.agg #[.int .i64 (d : Int), .int .i64 (n : Int), .slice A l.length c], .agg #[.int .i64 (d : Int), .int .i64 (n : Int), .slice A2 l2.length cc], .func (.func 88) #[] #[], .bool false] w (RetT w d n (shS d n false l l2)) := by
  obtain ⟨hd1, hd3, hn1, hn5⟩ := lev_bd hl
  have hd9 : d ≤ 9 := by omega
  have HR := Aside0.mk hr
  have HR2 := Aside0.mk hr2
  have HL := Aside0.mk hl
  have hll := (bnd_iff.1 (isTs_bnd hd3 hn5 hx)).1
  have hll2 := (bnd_iff.1 (isTs_bnd hd3 hn5 hy)).1
  have HSM := Aside0.mk (fun k (h : k < l.length) => (by rw [getD_lt l zT k h]; exact (isTs_iff.1 hx).1 _ (List.getElem_mem h) : isTm d n (l.getD k zT) = true))
  have HSM2 := Aside0.mk (fun k (h : k < l2.length) => (by rw [getD_lt l2 zT k h]; exact (isTs_iff.1 hy).1 _ (List.getElem_mem h) : isTm d n (l2.getD k zT) = true))
  have HNW := Aside0.mk (fun W => tabNew hl W)
  have HAD := Aside0.mk (fun g v bad f s a W k1 k2 k3 k4 k5 k6 => implAdd g v d n bad f s a W hl k1 k2 k3 k4 k5 k6)
  have HEND := Aside0.mk (fun (i : Nat) (F : Tb) (h : Rel d n (foldA d n false l l2 i) F) (hi : i = l.length) => sh_rel h hi)
  have HS := Aside0.mk (Sep.refl w)
  obtain ⟨N, hN⟩ : ∃ N, N = nW d n := ⟨_, rfl⟩
  unfold RetT at HNW
  rw [← hN] at HNW HAD
  unfold RetT
  rw [← hN]
  clear hr hr2 hx hy hl hN
  go_enter Try.func87, Try.ntmps87
  go_wp2_with (first | ((with_reducible refine gate_dst (N := 4) rfl ?_); refine bxL 26 #[.int .i64 (d : Int), .int .i64 (n : Int), .slice A l.length c] HS ?_; clear HS; intro g_p w1 hg_p HS) | ((with_reducible refine gate_dst (N := 5) rfl ?_); refine bxL 26 #[.int .i64 (d : Int), .int .i64 (n : Int), .slice A2 l2.length cc] HS ?_; clear HS; intro g_q w1 hg_q HS; have f1_ := HS.out.c 1 0 (v := .int .i64 (d : Int)) rfl rfl; have f2_ := HS.out.c 1 1 (v := .int .i64 (n : Int)) rfl rfl) | (go_at_call 79; refine (HNW.out _).mono ?_; rintro e_ w1 ⟨g, v, F, rfl, hF, hQ, hs⟩; replace HS := sN2 HS hs; clear hs f1_ f2_; have HF := Aside0.mk hF; have HQ := Aside0.mk hQ; clear hF hQ; have f1_ := HS.out.c 3 2 (v := .slice A l.length c) rfl rfl))
  go_loopw [27] (fun z w' => ∃ (i : Nat) (F : Tb), i ≤ l.length ∧ z = .int .i64 (i : Int) ∧ Aside0 (good F.1) ∧ Aside0 (Rel d n (foldA d n false l l2 i) F) ∧ Aside0 (Mod w w' No [tS g v d n N F.2, tV v d n F.1, bx g_q 26 #[.int .i64 (d : Int), .int .i64 (n : Int), .slice A2 l2.length cc], bx g_p 26 #[.int .i64 (d : Int), .int .i64 (n : Int), .slice A l.length c]])) (fun z _ => l.length - (intOf z).toNat)
  case atStart => exact ⟨0, F, by omega, rfl, HF, HQ, HS⟩
  case round =>
    clear HS HF HQ
    obtain ⟨i, F, hi, rfl, HF, HQ, HS⟩ := hrel
    by_cases hlt : i < l.length
    · have htm := HSM.out i hlt
      have hgt := Aside0.mk (getD_lt l zT i hlt)
      obtain ⟨ad_A, ea_, h0_, h1_, h2_⟩ := tm_at HR.out i (hlt)
      cases ea_
      obtain ⟨t_, ht_⟩ : ∃ t_, t_ = l.getD i zT := ⟨_, rfl⟩
      rw [← ht_] at h0_ h1_ h2_
      have Et_ := Aside0.mk ht_; have H0t_ := Aside0.mk h0_; have H1t_ := Aside0.mk h1_; have H2t_ := Aside0.mk h2_
      clear ht_ h0_ h1_ h2_
      rw [← Et_.out] at htm hgt
      have HE1 := Aside0.mk (show l[i]? = some t_ by rw [hgt.out]; exact List.getElem?_eq_getElem hlt)
      have HTM := Aside0.mk (isTm_fr htm)
      have hts : t_.1.size ≤ 5 := by have := HTM.out.2.2.2; omega
      clear htm hgt
      have HNA := Aside0.mk (foldA_next (d := d) (n := n) (half := false) (y := l2) HE1.out)
      obtain ⟨o1, ho1⟩ : ∃ o, o = foldA d n false l l2 i := ⟨_, rfl⟩
      rw [← ho1] at HNA HQ
      clear ho1
      have f1_ := HS.out.old H0t_.out
      have f2_ := HS.out.old H1t_.out
      have f3_ := HS.out.old H2t_.out
      go_wp2_with (first | ((with_reducible refine gate_dst (N := 11) rfl ?_); refine bxL 38 #[(.string ⟨#[]⟩), (.int .i64 0), (.int .i64 0)] HS ?_; clear HS f1_ f2_ f3_; intro g_x w1 hg_x HS) | ((with_reducible refine gate_store (t := 38) (p := 11) rfl ?_); refine stL HS 0 0 #[.string t_.1, .int .i64 t_.2.1, .int .i64 t_.2.2] rfl rfl rfl rfl rfl ?_; clear HS; intro w1 HS; have f1_ := HS.out.c 3 2 (v := .slice A2 l2.length cc) rfl rfl))
      go_loopw [40] (fun z w' => ∃ (j : Nat) (F : Tb), j ≤ l2.length ∧ z = .int .i64 (j : Int) ∧ Aside0 (good F.1) ∧ Aside0 (Rel d n (foldB d n false t_ o1 l2 j) F) ∧ Aside0 (Mod w w' No [bx g_x 38 #[.string t_.1, .int .i64 t_.2.1, .int .i64 t_.2.2], tS g v d n N F.2, tV v d n F.1, bx g_q 26 #[.int .i64 (d : Int), .int .i64 (n : Int), .slice A2 l2.length cc], bx g_p 26 #[.int .i64 (d : Int), .int .i64 (n : Int), .slice (some ad_A) l.length c]])) (fun z _ => l2.length - (intOf z).toNat)
      case atStart => exact ⟨0, F, by omega, rfl, HF, ⟨by rw [foldB_zero]; exact HQ.out⟩, HS⟩
      case round =>
        clear HS HF HQ
        obtain ⟨j, F, hj, rfl, HF, HQ, HS⟩ := hrel
        by_cases hlt2 : j < l2.length
        · have htm := HSM2.out j hlt2
          have hgt := Aside0.mk (getD_lt l2 zT j hlt2)
          obtain ⟨ad_A2, ea_, h0_, h1_, h2_⟩ := tm_at HR2.out j (hlt2)
          cases ea_
          obtain ⟨t2_, ht_⟩ : ∃ t_, t_ = l2.getD j zT := ⟨_, rfl⟩
          rw [← ht_] at h0_ h1_ h2_
          have Et2_ := Aside0.mk ht_; have H0t2_ := Aside0.mk h0_; have H1t2_ := Aside0.mk h1_; have H2t2_ := Aside0.mk h2_
          clear ht_ h0_ h1_ h2_
          rw [← Et2_.out] at htm hgt
          have HE2 := Aside0.mk (show l2[j]? = some t2_ by rw [hgt.out]; exact List.getElem?_eq_getElem hlt2)
          have HTM2 := Aside0.mk (isTm_fr htm)
          have hts2 : t2_.1.size ≤ 5 := by have := HTM2.out.2.2.2; omega
          clear htm hgt
          have HHF := Aside0.mk (show ¬ (false = true ∧ t_.1.size = 0) by rintro ⟨h1_, h2_⟩; first | omega | cases h1_)
          have HLG := Aside0.mk (fun h => foldB_long (d := d) (n := n) (half := false) (o := o1) HE2.out HHF.out h)
          have HOP := Aside0.mk (fun h => foldB_open (d := d) (n := n) (half := false) (o := o1) HE2.out HHF.out h)
          obtain ⟨o2, ho2⟩ : ∃ o, o = foldB d n false t_ o1 l2 j := ⟨_, rfl⟩
          rw [← ho2] at HLG HOP HQ
          clear ho2
          obtain ⟨m, hm⟩ : ∃ m, m = mul t_.2 t2_.2 := ⟨_, rfl⟩
          have HP := Aside0.mk (fun W => hm ▸ implTimesF t_.2 t2_.2 W HTM.out.1 HTM2.out.1)
          have HMF := Aside0.mk (orZ_fr (o := m) (fun e he => mul_fr (by rw [← hm]; exact he)))
          rw [← hm] at HLG HOP
          clear hm
          by_cases hlong : n < t_.1.size + t2_.1.size
          · have HN := Aside0.mk (HLG.out hlong)
            have hlb : ((n : Int) < (t_.1.size : Int) + (t2_.1.size : Int)) := by omega
            have HQ2 := Aside0.mk (show Rel d n (foldB d n false t_ o1 l2 (j + 1)) (F.1, F.2 || m.isNone) by rw [HN.out]; exact rel_check HQ.out m)
            have f1_ := HS.out.old H0t2_.out
            have f2_ := HS.out.old H1t2_.out
            have f3_ := HS.out.old H2t2_.out
            go_wp2_with (first | ((with_reducible refine gate_dst (N := 13) rfl ?_); refine bxL 38 #[(.string ⟨#[]⟩), (.int .i64 0), (.int .i64 0)] HS ?_; clear HS f1_ f2_ f3_; intro g_y w1 hg_y HS) | ((with_reducible refine gate_store (t := 38) (p := 13) rfl ?_); refine stL HS 0 0 #[.string t2_.1, .int .i64 t2_.2.1, .int .i64 t2_.2.2] rfl rfl rfl rfl rfl ?_; clear HS; intro w1 HS; have f1_ := HS.out.c 1 1 (v := .int .i64 t_.2.1) rfl rfl; have f2_ := HS.out.c 1 2 (v := .int .i64 t_.2.2) rfl rfl; have f3_ := HS.out.c 0 1 (v := .int .i64 t2_.2.1) rfl rfl; have f4_ := HS.out.c 0 2 (v := .int .i64 t2_.2.2) rfl rfl) | (go_at_call 129; refine (HP.out _).mono ?_; rintro e_ w1 ⟨a, b, hab, rfl, hb⟩; replace HS := sB HS hb; clear hb f1_ f2_ f3_ f4_) | (go_at_call 128; refine (implCheckO g v d n N F.2 m a b hab _ (HS.out.at (i := 2) rfl)).mono ?_; rintro e_ w1 ⟨rfl, hs⟩; replace HS : Aside0 (Mod _ _ _ [_, _, _, _, _, _]) := sM1 HS 2 [0, 1, 3, 4, 5] rfl hs; clear hs; clear hab) | ((with_reducible refine gate_dst (N := 14) rfl ?_); refine bxL 34 #[(.int .i64 0), (.int .i64 0)] HS ?_; clear HS; intro g_vb w1 hg_vb HS) | ((with_reducible refine gate_store (t := 34) (p := 14) rfl ?_); refine stL HS 0 0 #[.int .i64 (orZ m).1, .int .i64 (orZ m).2] rfl rfl rfl rfl rfl ?_; clear HS; intro w1 HS; have f1_ := HS.out.c 3 0 (v := .string t_.1) rfl rfl; have f2_ := HS.out.c 2 0 (v := .string t2_.1) rfl rfl; have f3_ := HS.out.c 6 1 (v := .int .i64 (n : Int)) rfl rfl))
            replace HS : Aside0 (Mod _ _ _ [_, _, _, _, _]) := sX HS [1, 3, 4, 5, 6]
            go_roundw
            case rel => exact ⟨j + 1, (F.1, F.2 || m.isNone), by omega, by go_num, HF, HQ2, sX HS [1, 0, 2, 3, 4]⟩
            case measure => simp [intOf]; omega
          · have HN := Aside0.mk (HOP.out hlong)
            have HQ2 := Aside0.mk (show Rel d n (pairO false t_.1 t2_.1 o2 m ((wordsN d (t_.1.size + t2_.1.size)).take 0)) (F.1, F.2 || m.isNone) by rw [List.take_zero, pairO_nil]; exact rel_check HQ.out m)
            have HWD := Aside0.mk (fun X => implWords d (t_.1.size + t2_.1.size) X hd3 (by omega))
            have HSZ := Aside0.mk (fun (k : Nat) (s : ByteArray) (h : (wordsN d (t_.1.size + t2_.1.size))[k]? = some s) => word_at hd9 h)
            have hul := wordsN_le (d := d) (n := t_.1.size + t2_.1.size) hd3 (by omega)
            obtain ⟨us, hus⟩ : ∃ us, us = wordsN d (t_.1.size + t2_.1.size) := ⟨_, rfl⟩
            rw [← hus] at HN HQ2 HWD HSZ hul
            clear hus
            have f1_ := HS.out.old H0t2_.out
            have f2_ := HS.out.old H1t2_.out
            have f3_ := HS.out.old H2t2_.out
            go_wp2_with (first | ((with_reducible refine gate_dst (N := 13) rfl ?_); refine bxL 38 #[(.string ⟨#[]⟩), (.int .i64 0), (.int .i64 0)] HS ?_; clear HS f1_ f2_ f3_; intro g_y w1 hg_y HS) | ((with_reducible refine gate_store (t := 38) (p := 13) rfl ?_); refine stL HS 0 0 #[.string t2_.1, .int .i64 t2_.2.1, .int .i64 t2_.2.2] rfl rfl rfl rfl rfl ?_; clear HS; intro w1 HS; have f1_ := HS.out.c 1 1 (v := .int .i64 t_.2.1) rfl rfl; have f2_ := HS.out.c 1 2 (v := .int .i64 t_.2.2) rfl rfl; have f3_ := HS.out.c 0 1 (v := .int .i64 t2_.2.1) rfl rfl; have f4_ := HS.out.c 0 2 (v := .int .i64 t2_.2.2) rfl rfl) | (go_at_call 129; refine (HP.out _).mono ?_; rintro e_ w1 ⟨a, b, hab, rfl, hb⟩; replace HS := sB HS hb; clear hb f1_ f2_ f3_ f4_) | (go_at_call 128; refine (implCheckO g v d n N F.2 m a b hab _ (HS.out.at (i := 2) rfl)).mono ?_; rintro e_ w1 ⟨rfl, hs⟩; replace HS : Aside0 (Mod _ _ _ [_, _, _, _, _, _]) := sM1 HS 2 [0, 1, 3, 4, 5] rfl hs; clear hs; clear hab) | ((with_reducible refine gate_dst (N := 14) rfl ?_); refine bxL 34 #[(.int .i64 0), (.int .i64 0)] HS ?_; clear HS; intro g_vb w1 hg_vb HS) | ((with_reducible refine gate_store (t := 34) (p := 14) rfl ?_); refine stL HS 0 0 #[.int .i64 (orZ m).1, .int .i64 (orZ m).2] rfl rfl rfl rfl rfl ?_; clear HS; intro w1 HS; have f1_ := HS.out.c 3 0 (v := .string t_.1) rfl rfl; have f2_ := HS.out.c 2 0 (v := .string t2_.1) rfl rfl; have f3_ := HS.out.c 6 1 (v := .int .i64 (n : Int)) rfl rfl; have f4_ := HS.out.c 6 0 (v := .int .i64 (d : Int)) rfl rfl) | (go_at_call 130; refine (HWD.out _).mono ?_; rintro e_ w1 ⟨B1, b1, rfl, hs⟩; replace HS := sN1 HS hs; clear hs f1_ f2_ f3_ f4_))
            go_loopw [69] (fun z w' => ∃ (k : Nat) (H : Tb), k ≤ us.length ∧ z = .int .i64 (k : Int) ∧ Aside0 (good H.1) ∧ Aside0 (Rel d n (pairO false t_.1 t2_.1 o2 m (us.take k)) H) ∧ Aside0 (Mod w w' No [rowS B1 b1 us, bx g_vb 34 #[.int .i64 (orZ m).1, .int .i64 (orZ m).2], tS g v d n N H.2, bx g_y 38 #[.string t2_.1, .int .i64 t2_.2.1, .int .i64 t2_.2.2], bx g_x 38 #[.string t_.1, .int .i64 t_.2.1, .int .i64 t_.2.2], tV v d n H.1, bx g_q 26 #[.int .i64 (d : Int), .int .i64 (n : Int), .slice (some ad_A2) l2.length cc], bx g_p 26 #[.int .i64 (d : Int), .int .i64 (n : Int), .slice (some ad_A) l.length c]])) (fun z _ => us.length - (intOf z).toNat)
            case atStart => exact ⟨0, (F.1, F.2 || m.isNone), by omega, rfl, HF, HQ2, HS⟩
            case round =>
              clear HS HF HQ HQ2
              obtain ⟨k, H, hk, rfl, HF, HQ, HS⟩ := hrel
              by_cases hlt3 : k < us.length
              · obtain ⟨ad, ea, h_⟩ := str_at (HS.out.reads 0 rfl) k hlt3
                clear h_
                cases ea
                obtain ⟨s, hs⟩ : ∃ s, us[k]? = some s := ⟨_, List.getElem?_eq_getElem hlt3⟩
                have HE := Aside0.mk hs
                have HSW := Aside0.mk (HSZ.out k s hs)
                have hss : s.size ≤ 5 := by have := HSW.out.1; omega
                have hsn : s.size ≤ n := by have := HSW.out.1; omega
                have HZ0 := Aside0.mk (fun h => pairO_zero (half := false) (v := t_.1) (w := t2_.1) (o := o2) (m := m) hs h)
                have HZ1 := Aside0.mk (fun h => rel_word HQ.out HF.out hs h HSW.out.2 hsn)
                have hm3 := numS_le false t_.1 t2_.1 s
                have hm4 := shN_le' (v := bl t_.1) (w := bl t2_.1) (u := bl s) (by rw [bl_len]; omega)
                have HNM := Aside0.mk (fun X => implShuffleNumber t_.1 t2_.1 s X (by omega) (by omega) (by omega))
                rw [show sh (bl t_.1) (bl t2_.1) (bl s) = numS false t_.1 t2_.1 s from rfl] at HNM
                obtain ⟨k2, hk2⟩ : ∃ k, k = numS false t_.1 t2_.1 s := ⟨_, rfl⟩
                have hkb : k2 ≤ 65536 := by omega
                rw [← hk2] at HZ0 HZ1 HNM
                clear hs hm3 hm4 hk2
                by_cases h0 : k2 = 0
                · have HQ2 := Aside0.mk (show Rel d n (pairO false t_.1 t2_.1 o2 m (us.take (k + 1))) H by rw [HZ0.out h0]; exact HQ.out)
                  have hgb : ¬ ((0 : Int) < (k2 : Int)) := by omega
                  clear h0
                  have f1_ := HS.out.str 0 rfl HE.out
                  have f2_ := HS.out.c 4 0 (v := .string t_.1) rfl rfl
                  have f3_ := HS.out.c 3 0 (v := .string t2_.1) rfl rfl
                  go_wp2_with (first | (go_at_call 88; refine (HNM.out _).mono ?_; rintro e_ w1 ⟨rfl, hb⟩; replace HS := sB HS hb; clear hb f1_ f2_ f3_))
                  go_roundw
                  case rel => exact ⟨k + 1, H, by omega, by go_num, HF, HQ2, HS⟩
                  case measure => simp [intOf]; omega
                · obtain ⟨hz1, hz2⟩ := HZ1.out h0
                  have HQ2 := Aside0.mk hz1
                  have HF2 := Aside0.mk hz2
                  have hgb : (0 : Int) < (k2 : Int) := by omega
                  clear h0 hz1 hz2
                  obtain ⟨e, he⟩ : ∃ e, e = mul (orZ m) ((k2 : Nat), 1) := ⟨_, rfl⟩
                  have HTW := Aside0.mk (fun W => he ▸ implTimesW (orZ m) k2 W HMF.out hkb)
                  have HEF := Aside0.mk (orZ_fr (o := e) (fun c hc => mul_fr (by rw [← he]; exact hc)))
                  rw [← he] at HQ2 HF2
                  clear he
                  have f1_ := HS.out.str 0 rfl HE.out
                  have f2_ := HS.out.c 4 0 (v := .string t_.1) rfl rfl
                  have f3_ := HS.out.c 3 0 (v := .string t2_.1) rfl rfl
                  go_wp2_with (first | (go_at_call 88; refine (HNM.out _).mono ?_; rintro e_ w1 ⟨rfl, hb⟩; replace HS := sB HS hb; clear hb f1_ f2_ f3_; have f1_ := HS.out.c 1 0 (v := .int .i64 (orZ m).1) rfl rfl; have f2_ := HS.out.c 1 1 (v := .int .i64 (orZ m).2) rfl rfl) | (go_at_call 131; refine (HTW.out _).mono ?_; rintro e_ w1 ⟨a, b, hab, rfl, hb⟩; replace HS := sB HS hb; clear hb f1_ f2_) | (go_at_call 128; refine (implCheckO g v d n N H.2 e a b hab _ (HS.out.at (i := 2) rfl)).mono ?_; rintro e_ w1 ⟨rfl, hs⟩; replace HS : Aside0 (Mod _ _ _ [_, _, _, _, _, _, _, _]) := sM1 HS 2 [0, 1, 3, 4, 5, 6, 7] rfl hs; clear hs; clear hab) | (go_at_call 104; refine (HAD.out g v (H.2 || e.isNone) H.1 s (orZ e) _ (HS.out.at (i := 0) rfl) (HS.out.at (i := 5) rfl) HSW.out.2 hsn (HF.out s) HEF.out).mono ?_; rintro e_ w1 ⟨rfl, hs⟩; replace HS : Aside0 (Mod _ _ _ [_, _, _, _, _, _, _, _]) := sM2 HS 0 5 [1, 2, 3, 4, 6, 7] rfl rfl hs; clear hs))
                  go_roundw
                  case rel => exact ⟨k + 1, addT H (s, e), by omega, by go_num, HF2, HQ2, sX HS [2, 3, 0, 4, 5, 1, 6, 7]⟩
                  case measure => simp [intOf]; omega
              · obtain rfl : k = us.length := by omega
                have HQ2 := Aside0.mk (show Rel d n (foldB d n false t_ o1 l2 (j + 1)) H by rw [HN.out]; have h := HQ.out; rwa [List.take_length] at h)
                go_wp2
                replace HS : Aside0 (Mod _ _ _ [_, _, _, _, _]) := sX HS [2, 4, 5, 6, 7]
                go_roundw
                case rel => exact ⟨j + 1, H, by omega, by go_num, HF, HQ2, sX HS [1, 0, 2, 3, 4]⟩
                case measure => simp [intOf]; omega
        · obtain rfl : j = l2.length := by omega
          have HQ2 := Aside0.mk (show Rel d n (foldA d n false l l2 (i + 1)) F by rw [HNA.out]; exact HQ.out)
          go_wp2
          replace HS : Aside0 (Mod _ _ _ [_, _, _, _]) := sX HS [1, 2, 3, 4]
          go_roundw
          case rel => exact ⟨i + 1, F, by omega, by go_num, HF, HQ2, sX HS [0, 1, 2, 3]⟩
          case measure => simp [intOf]; omega
    · have HE := Aside0.mk (HEND.out i F HQ.out (by omega))
      obtain rfl : i = l.length := by omega
      go_wp2
      go_ret
      exact ⟨g, v, F, rfl, HF.out, HE.out, HS.out.sel [0, 1] (by decide)⟩
end Go.Proofs.Ytibjkjhpfmmjoaa.H



namespace Go.Proofs.Ytibjkjhpfmmjoaa.M
def okW2 (d n : Int) (v w : ByteArray) : Bool := lev d n && (isWd d.toNat v && (isWd d.toNat w && (decide (v.size ≤ n.toNat) && decide (w.size ≤ n.toNat))))
def swR (d n : Int) (v w : ByteArray) : Rs := if okW2 d n v w = true then (d, n, shWT d.toNat n.toNat v w, 0) else noS 2
theorem sw_len {d n : Int} {v w : ByteArray} : (swR d n v w).2.2.1.length ≤ 1048576 := by
  unfold swR
  split
  · rename_i h
    have hl : lev d n = true := by unfold okW2 at h; rw [Bool.and_eq_true] at h; exact h.1
    have := lev_iff.1 hl
    exact shWT_len (by omega) (by omega) v w
  · show (0 : Nat) ≤ _; decide
theorem ts_one {d n : Nat} {v : ByteArray} (h1 : isWd d v = true) (h2 : v.size ≤ n) : isTs d n [(v, 1, 1)] = true :=
  isTs_iff.2 ⟨fun t ht => by rw [List.mem_singleton.1 ht]; exact isTm_mk h1 h2 (by decide) (by decide), List.pairwise_singleton _ _⟩
end Go.Proofs.Ytibjkjhpfmmjoaa.M
namespace Go.Proofs.Ytibjkjhpfmmjoaa.H
open Go.RowKit Go.Proofs.YtibjkjhpfmmjoaaW.PrintWords Go.Proofs.YtibjkjhpfmmjoaaW.PrintLast Go.Proofs.YtibjkjhpfmmjoaaW.PrintMore Go.Proofs.Ytibjkjhpfmmjoaa.M
attribute [local go_sem] max2_int min2_int max_two min_two max_three min_three max_four min_four
set_option linter.unusedVariables false
set_option linter.unusedSimpArgs false
set_option maxRecDepth 100000
set_option maxHeartbeats 8000000 in
theorem specShuffleWords (d n : Int) (v u : ByteArray) (w : World) (hv : v.size ≤ 1048576) (hu : u.size ≤ 1048576) :
    Calls Try.prog 34 #[.int .i64 d, .int .i64 n, .string v, .string u] w (RetS w (swR d n v u)) := by
  have HS := Aside0.mk (Sep.refl w)
  unfold swR okW2
  cases h : lev d n with
  | false =>
    go_enter Try.func34, Try.ntmps34
    go_wp2_with (first | ((with_reducible refine gate_dst (N := 8) rfl ?_); refine bxL 26 #[(.int .i64 0), (.int .i64 0), (.slice none 0 0)] HS ?_; clear HS; intro g_r w1 hg_r HS) | (go_at_call 89; refine (specSizes d n _).mono ?_; rintro e_ w1 ⟨rfl, hb⟩; replace HS := sB HS hb; clear hb) | ((with_reducible refine gate_store (t := 26) (p := 8) rfl ?_); refine stL HS 0 0 #[(.int .i64 0), (.int .i64 0), (.slice none 0 0)] rfl rfl rfl rfl rfl ?_; clear HS; intro w1 HS))
    refine bodyPost_ret (results_cell_tmp_row rfl _ _ g_r 26 #[(.int .i64 0), (.int .i64 0), (.slice none 0 0)] (0, 0) _ rfl (HS.out.at (i := 0) rfl) Try.underlying26 rfl (by kernel_rfl)) rfl ?_
    exact ⟨none, 0, rfl, nilS (HS.out.sel [] (by decide))⟩
  | true =>
    obtain ⟨d, n, rfl, rfl, hd1, hd3, hn1, hn5⟩ := lev_nat h
    rw [Int.toNat_natCast, Int.toNat_natCast, Bool.true_and]
    cases h1 : isWd d v with
    | false =>
      go_enter Try.func34, Try.ntmps34
      go_wp2_with (first | ((with_reducible refine gate_dst (N := 8) rfl ?_); refine bxL 26 #[(.int .i64 0), (.int .i64 0), (.slice none 0 0)] HS ?_; clear HS; intro g_r w1 hg_r HS) | (go_at_call 89; refine (specSizes d n _).mono ?_; rintro e_ w1 ⟨rfl, hb⟩; replace HS := sB HS hb; clear hb) | (go_at_call 90; refine (specWord d (by omega) v (by omega) _).mono ?_; rintro e_ w1 ⟨rfl, hb⟩; replace HS := sB HS hb; clear hb) | ((with_reducible refine gate_store (t := 26) (p := 8) rfl ?_); refine stL HS 0 0 #[(.int .i64 0), (.int .i64 0), (.slice none 0 0)] rfl rfl rfl rfl rfl ?_; clear HS; intro w1 HS))
      refine bodyPost_ret (results_cell_tmp_row rfl _ _ g_r 26 #[(.int .i64 0), (.int .i64 0), (.slice none 0 0)] (0, 0) _ rfl (HS.out.at (i := 0) rfl) Try.underlying26 rfl (by kernel_rfl)) rfl ?_
      exact ⟨none, 0, rfl, nilS (HS.out.sel [] (by decide))⟩
    | true =>
      rw [Bool.true_and]
      cases h2 : isWd d u with
      | false =>
        go_enter Try.func34, Try.ntmps34
        have tk1_ : True := trivial
        go_wp2_with (first | ((with_reducible refine gate_dst (N := 8) rfl ?_); refine bxL 26 #[(.int .i64 0), (.int .i64 0), (.slice none 0 0)] HS ?_; clear HS; intro g_r w1 hg_r HS) | (go_at_call 89; refine (specSizes d n _).mono ?_; rintro e_ w1 ⟨rfl, hb⟩; replace HS := sB HS hb; clear hb) | (go_at_call 90; clear tk1_; refine (specWord d (by omega) v (by omega) _).mono ?_; rintro e_ w1 ⟨rfl, hb⟩; replace HS := sB HS hb; clear hb) | (go_at_call 90; refine (specWord d (by omega) u (by omega) _).mono ?_; rintro e_ w1 ⟨rfl, hb⟩; replace HS := sB HS hb; clear hb) | ((with_reducible refine gate_store (t := 26) (p := 8) rfl ?_); refine stL HS 0 0 #[(.int .i64 0), (.int .i64 0), (.slice none 0 0)] rfl rfl rfl rfl rfl ?_; clear HS; intro w1 HS))
        refine bodyPost_ret (results_cell_tmp_row rfl _ _ g_r 26 #[(.int .i64 0), (.int .i64 0), (.slice none 0 0)] (0, 0) _ rfl (HS.out.at (i := 0) rfl) Try.underlying26 rfl (by kernel_rfl)) rfl ?_
        exact ⟨none, 0, rfl, nilS (HS.out.sel [] (by decide))⟩
      | true =>
        rw [Bool.true_and]
        by_cases h3 : v.size ≤ n
        · have hg3 : ¬ ((n : Int) < (v.size : Int)) := by omega
          by_cases h4 : u.size ≤ n
          · have hg4 : ¬ ((n : Int) < (u.size : Int)) := by omega
            rw [if_pos (by simp [h3, h4])]
            by_cases h5 : n < v.size + u.size
            · have hg5 : ((n : Int) < (v.size : Int) + (u.size : Int)) := by omega
              have HE := Aside0.mk (show shWT d n v u = [] by unfold shWT; rw [if_pos h5])
              clear h3 h4
              go_enter Try.func34, Try.ntmps34
              have tk2_ : True := trivial
              go_wp2_with (first | ((with_reducible refine gate_dst (N := 8) rfl ?_); refine bxL 26 #[(.int .i64 0), (.int .i64 0), (.slice none 0 0)] HS ?_; clear HS; intro g_r w1 hg_r HS) | (go_at_call 89; refine (specSizes d n _).mono ?_; rintro e_ w1 ⟨rfl, hb⟩; replace HS := sB HS hb; clear hb) | (go_at_call 90; clear tk2_; refine (specWord d (by omega) v (by omega) _).mono ?_; rintro e_ w1 ⟨rfl, hb⟩; replace HS := sB HS hb; clear hb) | (go_at_call 90; refine (specWord d (by omega) u (by omega) _).mono ?_; rintro e_ w1 ⟨rfl, hb⟩; replace HS := sB HS hb; clear hb) | ((with_reducible refine gate_dst (N := 44) rfl ?_); refine wpList_stp (fun K hK => ?_); refine stp_lit (KT) rfl 38 (by rfl) HS (xs := ([] : Ts)) (inner := []) (by first | (go_simp; done) | (go_simp; rfl)) (fun W base ok => Reps.none _ _) (by simp) ?_; clear HS; intro A_o c_o w1 HS; refine hK _ _ ?_; clear hK K) | ((with_reducible refine gate_dst (N := 10) rfl ?_); refine bxL 26 #[(.int .i64 0), (.int .i64 0), (.slice none 0 0)] HS ?_; clear HS; intro g_q w1 hg_q HS) | ((with_reducible refine gate_store (t := 26) (p := 10) rfl ?_); refine stL HS 0 0 #[(.int .i64 (d : Int)), (.int .i64 (n : Int)), (.slice A_o (([] : Ts)).length c_o)] rfl rfl rfl rfl rfl ?_; clear HS; intro w1 HS; have f1_ := HS.out.c 0 0 (v := (.int .i64 (d : Int))) rfl rfl; have f2_ := HS.out.c 0 1 (v := (.int .i64 (n : Int))) rfl rfl; have f3_ := HS.out.c 0 2 (v := (.slice A_o (([] : Ts)).length c_o)) rfl rfl) | ((with_reducible refine gate_store (t := 26) (p := 8) rfl ?_); refine stL HS 2 0 #[(.int .i64 (d : Int)), (.int .i64 (n : Int)), (.slice A_o (([] : Ts)).length c_o)] rfl rfl rfl rfl rfl ?_; clear HS f1_ f2_ f3_; intro w1 HS))
              refine bodyPost_ret (results_cell_tmp_row rfl _ _ g_r 26 #[(.int .i64 (d : Int)), (.int .i64 (n : Int)), (.slice A_o (([] : Ts)).length c_o)] (0, 0) _ rfl (HS.out.at (i := 2) rfl) Try.underlying26 rfl (by kernel_rfl)) rfl ?_
              rw [HE.out]
              exact ⟨A_o, c_o, rfl, HS.out.sel [1] (by decide)⟩
            · have hg5 : ¬ ((n : Int) < (v.size : Int) + (u.size : Int)) := by omega
              have HE := Aside0.mk (show shWT d n v u = ((shW d v u).take (shW d v u).length).map (shTm v u) by unfold shWT; rw [if_neg h5, List.take_length])
              have HWD := Aside0.mk (fun X => specShW d v u X hd3 (by omega))
              have HSZ := Aside0.mk (fun (k : Nat) (s : ByteArray) (h : (shW d v u)[k]? = some s) => (shW_mem (d := d) (by omega) (List.mem_of_getElem? h)).1)
              have hul : (shW d v u).length ≤ 6561 := by
                refine Nat.le_trans (List.length_filter_le _ _) ?_
                exact wordsN_le hd3 (by omega)
              obtain ⟨us, hus⟩ : ∃ us, us = shW d v u := ⟨_, rfl⟩
              rw [← hus] at HE HWD HSZ hul
              clear hus h3 h4
              go_enter Try.func34, Try.ntmps34
              have tk3_ : True := trivial
              go_wp2_with (first | ((with_reducible refine gate_dst (N := 8) rfl ?_); refine bxL 26 #[(.int .i64 0), (.int .i64 0), (.slice none 0 0)] HS ?_; clear HS; intro g_r w1 hg_r HS) | (go_at_call 89; refine (specSizes d n _).mono ?_; rintro e_ w1 ⟨rfl, hb⟩; replace HS := sB HS hb; clear hb) | (go_at_call 90; clear tk3_; refine (specWord d (by omega) v (by omega) _).mono ?_; rintro e_ w1 ⟨rfl, hb⟩; replace HS := sB HS hb; clear hb) | (go_at_call 90; refine (specWord d (by omega) u (by omega) _).mono ?_; rintro e_ w1 ⟨rfl, hb⟩; replace HS := sB HS hb; clear hb) | ((with_reducible refine gate_dst (N := 44) rfl ?_); refine wpList_stp (fun K hK => ?_); refine stp_lit (KT) rfl 38 (by rfl) HS (xs := ([] : Ts)) (inner := []) (by first | (go_simp; done) | (go_simp; rfl)) (fun W base ok => Reps.none _ _) (by simp) ?_; clear HS; intro A_o c_o w1 HS; refine hK _ _ ?_; clear hK K) | ((with_reducible refine gate_dst (N := 10) rfl ?_); refine bxL 26 #[(.int .i64 0), (.int .i64 0), (.slice none 0 0)] HS ?_; clear HS; intro g_q w1 hg_q HS) | ((with_reducible refine gate_store (t := 26) (p := 10) rfl ?_); refine stL HS 0 0 #[(.int .i64 (d : Int)), (.int .i64 (n : Int)), (.slice A_o (([] : Ts)).length c_o)] rfl rfl rfl rfl rfl ?_; clear HS; intro w1 HS) | (go_at_call 91; refine (HWD.out _).mono ?_; rintro e_ w1 ⟨B1, b1, rfl, hs⟩; replace HS := sN1 HS hs; clear hs))
              go_loopw [12] (fun x w' => ∃ (i : Nat) (B : Option Addr) (b : Nat) (z : Ts), i ≤ us.length ∧ x = .int .i64 (i : Int) ∧ Aside0 (z = (us.take i).map (shTm v u)) ∧ Aside0 (Mod w w' No [rowS B1 b1 us, bx g_q 26 #[.int .i64 (d : Int), .int .i64 (n : Int), .slice B z.length b], rowT B b z, bx g_r 26 #[(.int .i64 0), (.int .i64 0), (.slice none 0 0)]])) (fun x _ => us.length - (intOf x).toNat)
              case atStart => exact ⟨0, A_o, c_o, [], by omega, rfl, ⟨rfl⟩, HS⟩
              case round =>
                clear HS
                obtain ⟨i, B, b, z, hi, rfl, HZ, HS⟩ := hrel
                by_cases hlt : i < us.length
                · obtain ⟨ad, ea, h_⟩ := str_at (HS.out.reads 0 rfl) i hlt
                  clear h_
                  cases ea
                  obtain ⟨s, hs⟩ : ∃ s, us[i]? = some s := ⟨_, List.getElem?_eq_getElem hlt⟩
                  have HEs := Aside0.mk hs
                  have hss : s.size ≤ 5 := by have := HSZ.out i s hs; omega
                  have hzl : z.length ≤ 6561 := by rw [HZ.out, List.length_map, List.length_take]; omega
                  have HNM := Aside0.mk (fun X => specNum v u s X (by omega) (by omega) (by omega))
                  have HN := Aside0.mk (show (us.take (i + 1)).map (shTm v u) = z ++ [(s, ((shN v u s : Nat) : Int), 1)] by rw [List.take_add_one, hs, List.map_append, HZ.out]; rfl)
                  obtain ⟨m, hm⟩ : ∃ m, m = shN v u s := ⟨_, rfl⟩
                  rw [← hm] at HNM HN
                  clear hs hm
                  go_wp2
                  replace HS := sD HS
                  refine ps (.p 0 (.p 2 (.p 3 (.p 4 (.p 6 (.p 7 (.p 8 (.p 9 (.p 10 (.t 1 (.t 5 (.t 11 (.e 12 (.p 13 (.p 14 (.e 15 (.d 16 (.p 17 (.d 18 .done))))))))))))))))))) (fun w' => w'.cell? ⟨g_q, 2, none⟩ = some (.slice B z.length b) ∧ w'.cell? (ad.add i) = some (.string s)) [16, 18] ⟨HS.out.c 1 2 (v := .slice B z.length b) rfl rfl, HS.out.str 0 rfl HEs.out⟩ (fun hHeld => ?_)
                  repeat (first | ((with_reducible refine gate_p ?_); refine rp rfl rfl ?_) | ((with_reducible refine gate_t ?_); refine rt rfl rfl hHeld ?_))
                  refine run_e rfl (fun K hK => ?_)
                  refine gc Try.func92 (HNM.out _) rfl rfl ?_
                  rintro e_ w1 ⟨rfl, hb⟩
                  refine ⟨_, rfl, ?_⟩
                  replace HS := sB HS hb
                  clear hb
                  refine ge hK ⟨HS.out.c 1 2 (v := .slice B z.length b) rfl rfl, HS.out.str 0 rfl HEs.out⟩ (fun hHeld => ?_)
                  clear hK K
                  repeat (first | ((with_reducible refine gate_p ?_); refine rp rfl rfl ?_) | ((with_reducible refine gate_t ?_); refine rt rfl rfl hHeld ?_))
                  refine run_e rfl (fun K hK => ?_)
                  refine stp_lit (KT) rfl 38 (by rfl) HS (xs := [((s, (m : Int), 1) : Tm)]) (inner := [.string s, .int .i64 (m : Int), .int .i64 1]) (by first | (go_simp; done) | (go_simp; rfl)) (fun W base ok => Reps.snoc (Reps.none _ _) (KT_M (s, (m : Int), 1) W base ok) rfl) (by simp) ?_
                  clear HS
                  intro A_k c_k w1 HS
                  refine ge hK ⟨HS.out.c 2 2 (v := .slice B z.length b) rfl rfl, HS.out.str 1 rfl HEs.out⟩ (fun hHeld => ?_)
                  clear hK K
                  refine run_d rfl (fun K hK => ?_)
                  refine stp_rows KT rfl (fun _ _ _ _ _ h => h) (by rfl) HS 3 rfl (.tmp 65) (.tmp 79) 24 (.agg #[(.string ⟨#[]⟩), (.int .i64 0), (.int .i64 0)]) 32 rfl Try.underlying24 infoTerm (by kernel_rfl) [((s, (m : Int), 1) : Tm)] rfl rfl (HS.out.reads 0 rfl) (by show (z.length + 1) * 32 ≤ _; omega) ?_
                  clear HS
                  intro A_y' c_y' y' w1 Ny' HS
                  simp only [List.set_cons_zero, List.set_cons_succ] at HS
                  refine gd hK ?_
                  clear hK K
                  repeat (first | ((with_reducible refine gate_p ?_); refine rp rfl rfl ?_) | ((with_reducible refine gate_t ?_); refine rt rfl rfl hHeld ?_))
                  refine run_d rfl (fun K hK => ?_)
                  refine st1 HS 2 2 #[.int .i64 (d : Int), .int .i64 (n : Int), (.slice A_y' y'.length c_y')] rfl rfl rfl rfl rfl ?_
                  clear HS
                  intro w1 HS
                  refine goD hK rfl ?_
                  clear hK K
                  refine run_done ?_
                  clear hHeld
                  go_wp2
                  go_roundw
                  case rel => exact ⟨i + 1, A_y', c_y', y', by omega, by go_num, ⟨by rw [Ny'.out, HN.out]⟩, sX HS [1, 2, 3, 4]⟩
                  case measure => simp [intOf]; omega
                · obtain rfl : i = us.length := by omega
                  have f1_ := HS.out.c 1 0 (v := .int .i64 (d : Int)) rfl rfl
                  have f2_ := HS.out.c 1 1 (v := .int .i64 (n : Int)) rfl rfl
                  have f3_ := HS.out.c 1 2 (v := .slice B z.length b) rfl rfl
                  go_wp2_with (first | ((with_reducible refine gate_store (t := 26) (p := 8) rfl ?_); refine stL HS 3 0 #[.int .i64 (d : Int), .int .i64 (n : Int), .slice B z.length b] rfl rfl rfl rfl rfl ?_; clear HS f1_ f2_ f3_; intro w1 HS))
                  refine bodyPost_ret (results_cell_tmp_row rfl _ _ g_r 26 #[.int .i64 (d : Int), .int .i64 (n : Int), .slice B z.length b] (0, 0) _ rfl (HS.out.at (i := 3) rfl) Try.underlying26 rfl (by kernel_rfl)) rfl ?_
                  rw [HE.out, ← HZ.out]
                  exact ⟨B, b, rfl, HS.out.sel [2] (by decide)⟩
          · have hg4 : ((n : Int) < (u.size : Int)) := by omega
            rw [if_neg (by simp [h4])]
            go_enter Try.func34, Try.ntmps34
            have tk4_ : True := trivial
            go_wp2_with (first | ((with_reducible refine gate_dst (N := 8) rfl ?_); refine bxL 26 #[(.int .i64 0), (.int .i64 0), (.slice none 0 0)] HS ?_; clear HS; intro g_r w1 hg_r HS) | (go_at_call 89; refine (specSizes d n _).mono ?_; rintro e_ w1 ⟨rfl, hb⟩; replace HS := sB HS hb; clear hb) | (go_at_call 90; clear tk4_; refine (specWord d (by omega) v (by omega) _).mono ?_; rintro e_ w1 ⟨rfl, hb⟩; replace HS := sB HS hb; clear hb) | (go_at_call 90; refine (specWord d (by omega) u (by omega) _).mono ?_; rintro e_ w1 ⟨rfl, hb⟩; replace HS := sB HS hb; clear hb) | ((with_reducible refine gate_store (t := 26) (p := 8) rfl ?_); refine stL HS 0 0 #[(.int .i64 0), (.int .i64 0), (.slice none 0 0)] rfl rfl rfl rfl rfl ?_; clear HS; intro w1 HS))
            refine bodyPost_ret (results_cell_tmp_row rfl _ _ g_r 26 #[(.int .i64 0), (.int .i64 0), (.slice none 0 0)] (0, 0) _ rfl (HS.out.at (i := 0) rfl) Try.underlying26 rfl (by kernel_rfl)) rfl ?_
            exact ⟨none, 0, rfl, nilS (HS.out.sel [] (by decide))⟩
        · have hg3 : ((n : Int) < (v.size : Int)) := by omega
          rw [if_neg (by simp [h3])]
          go_enter Try.func34, Try.ntmps34
          have tk5_ : True := trivial
          go_wp2_with (first | ((with_reducible refine gate_dst (N := 8) rfl ?_); refine bxL 26 #[(.int .i64 0), (.int .i64 0), (.slice none 0 0)] HS ?_; clear HS; intro g_r w1 hg_r HS) | (go_at_call 89; refine (specSizes d n _).mono ?_; rintro e_ w1 ⟨rfl, hb⟩; replace HS := sB HS hb; clear hb) | (go_at_call 90; clear tk5_; refine (specWord d (by omega) v (by omega) _).mono ?_; rintro e_ w1 ⟨rfl, hb⟩; replace HS := sB HS hb; clear hb) | (go_at_call 90; refine (specWord d (by omega) u (by omega) _).mono ?_; rintro e_ w1 ⟨rfl, hb⟩; replace HS := sB HS hb; clear hb) | ((with_reducible refine gate_store (t := 26) (p := 8) rfl ?_); refine stL HS 0 0 #[(.int .i64 0), (.int .i64 0), (.slice none 0 0)] rfl rfl rfl rfl rfl ?_; clear HS; intro w1 HS))
          refine bodyPost_ret (results_cell_tmp_row rfl _ _ g_r 26 #[(.int .i64 0), (.int .i64 0), (.slice none 0 0)] (0, 0) _ rfl (HS.out.at (i := 0) rfl) Try.underlying26 rfl (by kernel_rfl)) rfl ?_
          exact ⟨none, 0, rfl, nilS (HS.out.sel [] (by decide))⟩
set_option maxHeartbeats 8000000 in
theorem implShuffleWords (d n : Int) (v u : ByteArray) (w : World) (hv : v.size ≤ 1048576) (hu : u.size ≤ 1048576) :
    Calls Try.prog 33 #[.int .i64 d, .int .i64 n, .string v, .string u] w (RetS w (swR d n v u)) := by
  have HS := Aside0.mk (Sep.refl w)
  unfold swR okW2
  cases h : lev d n with
  | false =>
    go_enter Try.func33, Try.ntmps33
    go_wp2_with (first | ((with_reducible refine gate_dst (N := 8) rfl ?_); refine bxL 26 #[(.int .i64 0), (.int .i64 0), (.slice none 0 0)] HS ?_; clear HS; intro g_r w1 hg_r HS) | (go_at_call 78; refine (implLevel d n _).mono ?_; rintro e_ w1 ⟨rfl, hb⟩; replace HS := sB HS hb; clear hb) | ((with_reducible refine gate_store (t := 26) (p := 8) rfl ?_); refine stL HS 0 0 #[(.int .i64 0), (.int .i64 0), (.slice none 0 0)] rfl rfl rfl rfl rfl ?_; clear HS; intro w1 HS))
    refine bodyPost_ret (results_cell_tmp_row rfl _ _ g_r 26 #[(.int .i64 0), (.int .i64 0), (.slice none 0 0)] (0, 0) _ rfl (HS.out.at (i := 0) rfl) Try.underlying26 rfl (by kernel_rfl)) rfl ?_
    exact ⟨none, 0, rfl, nilS (HS.out.sel [] (by decide))⟩
  | true =>
    have HL := Aside0.mk h
    obtain ⟨d, n, rfl, rfl, hd1, hd3, hn1, hn5⟩ := lev_nat h
    rw [Int.toNat_natCast, Int.toNat_natCast, Bool.true_and]
    have HW1 := Aside0.mk (fun X => implWord d n (by omega) v (by omega) X)
    have HW2 := Aside0.mk (fun X => implWord d n (by omega) u (by omega) X)
    cases h1 : (isWd d v && decide (v.size ≤ n)) with
    | false =>
      rw [h1] at HW1
      rw [if_neg (fun h => by rw [Bool.and_eq_false_iff] at h1; simp at h h1; rcases h1 with h1 | h1 <;> simp_all <;> omega)]
      clear h1
      go_enter Try.func33, Try.ntmps33
      go_wp2_with (first | ((with_reducible refine gate_dst (N := 8) rfl ?_); refine bxL 26 #[(.int .i64 0), (.int .i64 0), (.slice none 0 0)] HS ?_; clear HS; intro g_r w1 hg_r HS) | (go_at_call 78; refine (implLevel d n _).mono ?_; rintro e_ w1 ⟨rfl, hb⟩; replace HS := sB HS hb; clear hb) | (go_at_call 63; refine (HW1.out _).mono ?_; rintro e_ w1 ⟨rfl, hb⟩; replace HS := sB HS hb; clear hb) | ((with_reducible refine gate_store (t := 26) (p := 8) rfl ?_); refine stL HS 0 0 #[(.int .i64 0), (.int .i64 0), (.slice none 0 0)] rfl rfl rfl rfl rfl ?_; clear HS; intro w1 HS))
      refine bodyPost_ret (results_cell_tmp_row rfl _ _ g_r 26 #[(.int .i64 0), (.int .i64 0), (.slice none 0 0)] (0, 0) _ rfl (HS.out.at (i := 0) rfl) Try.underlying26 rfl (by kernel_rfl)) rfl ?_
      exact ⟨none, 0, rfl, nilS (HS.out.sel [] (by decide))⟩
    | true =>
      rw [h1] at HW1
      rw [Bool.and_eq_true] at h1
      obtain ⟨k1, k2⟩ := h1
      replace k2 := of_decide_eq_true k2
      cases h2 : (isWd d u && decide (u.size ≤ n)) with
      | false =>
        rw [h2] at HW2
        rw [if_neg (fun h => by rw [Bool.and_eq_false_iff] at h2; simp at h h2; rcases h2 with h2 | h2 <;> simp_all <;> omega)]
        clear h2
        go_enter Try.func33, Try.ntmps33
        have tk6_ : True := trivial
        go_wp2_with (first | ((with_reducible refine gate_dst (N := 8) rfl ?_); refine bxL 26 #[(.int .i64 0), (.int .i64 0), (.slice none 0 0)] HS ?_; clear HS; intro g_r w1 hg_r HS) | (go_at_call 78; refine (implLevel d n _).mono ?_; rintro e_ w1 ⟨rfl, hb⟩; replace HS := sB HS hb; clear hb) | (go_at_call 63; clear tk6_; refine (HW1.out _).mono ?_; rintro e_ w1 ⟨rfl, hb⟩; replace HS := sB HS hb; clear hb) | (go_at_call 63; refine (HW2.out _).mono ?_; rintro e_ w1 ⟨rfl, hb⟩; replace HS := sB HS hb; clear hb) | ((with_reducible refine gate_store (t := 26) (p := 8) rfl ?_); refine stL HS 0 0 #[(.int .i64 0), (.int .i64 0), (.slice none 0 0)] rfl rfl rfl rfl rfl ?_; clear HS; intro w1 HS))
        refine bodyPost_ret (results_cell_tmp_row rfl _ _ g_r 26 #[(.int .i64 0), (.int .i64 0), (.slice none 0 0)] (0, 0) _ rfl (HS.out.at (i := 0) rfl) Try.underlying26 rfl (by kernel_rfl)) rfl ?_
        exact ⟨none, 0, rfl, nilS (HS.out.sel [] (by decide))⟩
      | true =>
        rw [h2] at HW2
        rw [Bool.and_eq_true] at h2
        obtain ⟨m1, m2⟩ := h2
        replace m2 := of_decide_eq_true m2
        rw [if_pos (by simp [k1, k2, m1, m2])]
        have HT1 := Aside0.mk (ts_one k1 k2)
        have HT2 := Aside0.mk (ts_one m1 m2)
        have HR := Aside0.mk (show resO d n (shS d n false [(v, 1, 1)] [(u, 1, 1)]) = ((d : Int), (n : Int), shWT d n v u, 0) by rw [sh_two (by omega) (by omega)]; rfl)
        rw [← HR.out]
        clear HR
        go_enter Try.func33, Try.ntmps33
        have tk7_ : True := trivial
        have tk8_ : True := trivial
        go_wp2_with (first | ((with_reducible refine gate_dst (N := 8) rfl ?_); refine bxL 26 #[(.int .i64 0), (.int .i64 0), (.slice none 0 0)] HS ?_; clear HS; intro g_r w1 hg_r HS) | (go_at_call 78; refine (implLevel d n _).mono ?_; rintro e_ w1 ⟨rfl, hb⟩; replace HS := sB HS hb; clear hb) | (go_at_call 63; clear tk7_; refine (HW1.out _).mono ?_; rintro e_ w1 ⟨rfl, hb⟩; replace HS := sB HS hb; clear hb) | (go_at_call 63; refine (HW2.out _).mono ?_; rintro e_ w1 ⟨rfl, hb⟩; replace HS := sB HS hb; clear hb) | (go_at_call 86; clear tk8_; refine (implWhole 1 _).mono ?_; rintro e_ w1 ⟨rfl, hb⟩; replace HS := sB HS hb; clear hb) | ((with_reducible refine gate_dst (N := 36) rfl ?_); refine wpList_stp (fun K hK => ?_); refine stp_lit (KT) rfl 38 (by rfl) HS (xs := [((v, 1, 1) : Tm)]) (inner := [.string v, .int .i64 1, .int .i64 1]) (by first | (go_simp; done) | (go_simp; rfl)) (fun W base ok => Reps.snoc (Reps.none _ _) (KT_M (v, 1, 1) W base ok) rfl) (by simp) ?_; clear HS; intro A_x c_x w1 HS; refine hK _ _ ?_; clear hK K) | ((with_reducible refine gate_dst (N := 10) rfl ?_); refine bxL 26 #[(.int .i64 0), (.int .i64 0), (.slice none 0 0)] HS ?_; clear HS; intro g_p w1 hg_p HS) | ((with_reducible refine gate_store (t := 26) (p := 10) rfl ?_); refine stL HS 0 0 #[(.int .i64 (d : Int)), (.int .i64 (n : Int)), (.slice A_x ([((v, 1, 1) : Tm)]).length c_x)] rfl rfl rfl rfl rfl ?_; clear HS; intro w1 HS) | (go_at_call 86; refine (implWhole 1 _).mono ?_; rintro e_ w1 ⟨rfl, hb⟩; replace HS := sB HS hb; clear hb) | ((with_reducible refine gate_dst (N := 43) rfl ?_); refine wpList_stp (fun K hK => ?_); refine stp_lit (KT) rfl 38 (by rfl) HS (xs := [((u, 1, 1) : Tm)]) (inner := [.string u, .int .i64 1, .int .i64 1]) (by first | (go_simp; done) | (go_simp; rfl)) (fun W base ok => Reps.snoc (Reps.none _ _) (KT_M (u, 1, 1) W base ok) rfl) (by simp) ?_; clear HS; intro A_y c_y w1 HS; refine hK _ _ ?_; clear hK K) | ((with_reducible refine gate_dst (N := 11) rfl ?_); refine bxL 26 #[(.int .i64 0), (.int .i64 0), (.slice none 0 0)] HS ?_; clear HS; intro g_q w1 hg_q HS) | ((with_reducible refine gate_store (t := 26) (p := 11) rfl ?_); refine stL HS 0 0 #[(.int .i64 (d : Int)), (.int .i64 (n : Int)), (.slice A_y ([((u, 1, 1) : Tm)]).length c_y)] rfl rfl rfl rfl rfl ?_; clear HS; intro w1 HS; have f1_ := HS.out.c 2 0 (v := (.int .i64 (d : Int))) rfl rfl; have f2_ := HS.out.c 2 1 (v := (.int .i64 (n : Int))) rfl rfl; have f3_ := HS.out.c 2 2 (v := (.slice A_x ([((v, 1, 1) : Tm)]).length c_x)) rfl rfl; have f4_ := HS.out.c 0 0 (v := (.int .i64 (d : Int))) rfl rfl; have f5_ := HS.out.c 0 1 (v := (.int .i64 (n : Int))) rfl rfl; have f6_ := HS.out.c 0 2 (v := (.slice A_y ([((u, 1, 1) : Tm)]).length c_y)) rfl rfl) | (go_at_call 87; refine (implShuffledF d n HL.out A_x c_x [(v, 1, 1)] A_y c_y [(u, 1, 1)] _ (HS.out.reads 3 rfl) (HS.out.reads 1 rfl) HT1.out HT2.out).mono ?_; rintro e_ w1 ⟨g3, v3, F3, rfl, hF, hQ, hs⟩; replace HS := sN2 HS hs; clear hs f1_ f2_ f3_ f4_ f5_ f6_; have HF3 := Aside0.mk hF; have HQ3 := Aside0.mk hQ; clear hF hQ) | (go_at_call 69; refine (tabTold HL.out ⟨HF3.out, HQ3.out, HS.out.at (i := 0) rfl, HS.out.at (i := 1) rfl⟩).mono ?_; rintro e_ w1 ⟨B, b, rfl, hs⟩; replace HS := sN1 HS hs; clear hs) | ((with_reducible refine gate_store (t := 26) (p := 8) rfl ?_); refine stL HS 7 0 #[.int .i64 (resO d n (shS d n false [(v, 1, 1)] [(u, 1, 1)])).1, .int .i64 (resO d n (shS d n false [(v, 1, 1)] [(u, 1, 1)])).2.1, .slice B (resO d n (shS d n false [(v, 1, 1)] [(u, 1, 1)])).2.2.1.length b] rfl rfl rfl rfl rfl ?_; clear HS; intro w1 HS))
        refine bodyPost_ret (results_cell_tmp_row rfl _ _ g_r 26 #[.int .i64 (resO d n (shS d n false [(v, 1, 1)] [(u, 1, 1)])).1, .int .i64 (resO d n (shS d n false [(v, 1, 1)] [(u, 1, 1)])).2.1, .slice B (resO d n (shS d n false [(v, 1, 1)] [(u, 1, 1)])).2.2.1.length b] (0, 0) _ rfl (HS.out.at (i := 7) rfl) Try.underlying26 rfl (by kernel_rfl)) rfl ?_
        exact ⟨B, b, rfl, HS.out.sel [0] (by decide)⟩
end Go.Proofs.Ytibjkjhpfmmjoaa.H



namespace Go.Proofs.Ytibjkjhpfmmjoaa.M
abbrev okU (d : Int) (v w u : ByteArray) : Prop := inR d 1 3 = true ∧ isWd d.toNat v = true ∧ isWd d.toNat w = true ∧ isWd d.toNat u = true ∧ v.size ≤ 8 ∧ w.size ≤ 8 ∧ u.size ≤ 8
def snR (d : Int) (v w u : ByteArray) : Int × Int := if okU d v w u then (((sh (bl v) (bl w) (bl u) : Nat) : Int), 0) else (0, 2)
theorem snR_yes {d : Int} {v w u : ByteArray} (h : okU d v w u) : snR d v w u = (((sh (bl v) (bl w) (bl u) : Nat) : Int), 0) := by unfold snR; rw [if_pos h]
theorem snR_no {d : Int} {v w u : ByteArray} (h : ¬ okU d v w u) : snR d v w u = (0, 2) := by unfold snR; rw [if_neg h]
end Go.Proofs.Ytibjkjhpfmmjoaa.M
namespace Go.Proofs.Ytibjkjhpfmmjoaa.H
open Go.RowKit Go.Proofs.YtibjkjhpfmmjoaaW.PrintWords Go.Proofs.YtibjkjhpfmmjoaaW.PrintLast Go.Proofs.YtibjkjhpfmmjoaaW.PrintMore Go.Proofs.Ytibjkjhpfmmjoaa.M
attribute [local go_sem] max2_int min2_int max_two min_two max_three min_three max_four min_four
set_option linter.unusedVariables false
set_option linter.unusedSimpArgs false
set_option maxRecDepth 100000
theorem quietU {P : Program} {f : FuncId} {vs : Array Value} {w : World} {v : Value} (h : Calls P f vs w fun e w' => e = .returned v ∧ ∃ n, w' = w.drewN n) : Calls P f vs w fun e w' => e = .returned v ∧ Below w.heap.size w w' :=
  h.mono fun e w' ⟨h1, n, h2⟩ => ⟨h1, by rw [h2]; exact pw_below_drewN (Below.refl _ _) n⟩
def RetII2 (w : World) (r : Int × Int) (e : Ending) (w' : World) : Prop := e = .returned (.tuple #[.int .i64 r.1, .int .i64 r.2]) ∧ Below w.heap.size w w'
set_option maxHeartbeats 8000000 in
theorem implShuffleNumberP (d : Int) (v u t : ByteArray) (w : World) (hv : v.size ≤ 1048576) (hu : u.size ≤ 1048576) (ht : t.size ≤ 1048576) :
    Calls Try.prog 36 #[.int .i64 d, .string v, .string u, .string t] w (RetII2 w (snR d v u t)) := by
  have HS := Aside0.mk (Sep.refl w)
  have HA := Aside0.mk (fun X => quietU (implLetters d X))
  cases h : inR d 1 3 with
  | false =>
    rw [h] at HA
    rw [snR_no (fun k => by have k1 := k.1; rw [h] at k1; cases k1)]
    clear h
    go_enter Try.func36, Try.ntmps36
    go_wp2_with (first | (go_at_call 93; refine (HA.out _).mono ?_; rintro e_ w1 ⟨rfl, hb⟩; replace HS := sB HS hb; clear hb))
    go_ret2
    exact ⟨rfl, HS.out.below⟩
  | true =>
    rw [h] at HA
    obtain ⟨e, rfl⟩ : ∃ e : Nat, d = (e : Int) := ⟨d.toNat, by have := (inR_iff _ _ _).1 h; omega⟩
    have he9 : e ≤ 9 := by have := (inR_iff _ _ _).1 h; omega
    have HI := Aside0.mk h
    have HW1 := Aside0.mk (fun X => implWord e 8 he9 v (by omega) X)
    have HW2 := Aside0.mk (fun X => implWord e 8 he9 u (by omega) X)
    have HW3 := Aside0.mk (fun X => implWord e 8 he9 t (by omega) X)
    clear h
    cases h1 : (isWd e v && decide (v.size ≤ 8)) with
    | false =>
      rw [h1] at HW1
      rw [snR_no (fun k => by obtain ⟨_, k2, k3, k4, k5, k6, k7⟩ := k; rw [Int.toNat_natCast] at k2; rw [k2, decide_eq_true k5] at h1; cases h1)]
      clear h1
      go_enter Try.func36, Try.ntmps36
      go_wp2_with (first | (go_at_call 93; refine (HA.out _).mono ?_; rintro e_ w1 ⟨rfl, hb⟩; replace HS := sB HS hb; clear hb) | (go_at_call 63; refine (HW1.out _).mono ?_; rintro e_ w1 ⟨rfl, hb⟩; replace HS := sB HS hb; clear hb))
      go_ret2
      exact ⟨rfl, HS.out.below⟩
    | true =>
      rw [h1] at HW1
      have H1 := Aside0.mk h1
      clear h1
      cases h2 : (isWd e u && decide (u.size ≤ 8)) with
      | false =>
        rw [h2] at HW2
        rw [snR_no (fun k => by obtain ⟨_, k2, k3, k4, k5, k6, k7⟩ := k; rw [Int.toNat_natCast] at k3; rw [k3, decide_eq_true k6] at h2; cases h2)]
        clear h2
        go_enter Try.func36, Try.ntmps36
        have tk1_ : True := trivial
        go_wp2_with (first | (go_at_call 93; refine (HA.out _).mono ?_; rintro e_ w1 ⟨rfl, hb⟩; replace HS := sB HS hb; clear hb) | (go_at_call 63; clear tk1_; refine (HW1.out _).mono ?_; rintro e_ w1 ⟨rfl, hb⟩; replace HS := sB HS hb; clear hb) | (go_at_call 63; refine (HW2.out _).mono ?_; rintro e_ w1 ⟨rfl, hb⟩; replace HS := sB HS hb; clear hb))
        go_ret2
        exact ⟨rfl, HS.out.below⟩
      | true =>
        rw [h2] at HW2
        have H2 := Aside0.mk h2
        clear h2
        cases h3 : (isWd e t && decide (t.size ≤ 8)) with
        | false =>
          rw [h3] at HW3
          rw [snR_no (fun k => by obtain ⟨_, k2, k3, k4, k5, k6, k7⟩ := k; rw [Int.toNat_natCast] at k4; rw [k4, decide_eq_true k7] at h3; cases h3)]
          clear h3
          go_enter Try.func36, Try.ntmps36
          have tk2_ : True := trivial
          have tk3_ : True := trivial
          go_wp2_with (first | (go_at_call 93; refine (HA.out _).mono ?_; rintro e_ w1 ⟨rfl, hb⟩; replace HS := sB HS hb; clear hb) | (go_at_call 63; clear tk2_; refine (HW1.out _).mono ?_; rintro e_ w1 ⟨rfl, hb⟩; replace HS := sB HS hb; clear hb) | (go_at_call 63; clear tk3_; refine (HW2.out _).mono ?_; rintro e_ w1 ⟨rfl, hb⟩; replace HS := sB HS hb; clear hb) | (go_at_call 63; refine (HW3.out _).mono ?_; rintro e_ w1 ⟨rfl, hb⟩; replace HS := sB HS hb; clear hb))
          go_ret2
          exact ⟨rfl, HS.out.below⟩
        | true =>
          rw [h3] at HW3
          have k1 := H1.out
          have k2 := H2.out
          rw [Bool.and_eq_true] at k1 k2 h3
          have hn := implShuffleNumber v u t
          have l1 := of_decide_eq_true k1.2
          have l2 := of_decide_eq_true k2.2
          have l3 := of_decide_eq_true h3.2
          rw [snR_yes ⟨HI.out, by rw [Int.toNat_natCast]; exact k1.1, by rw [Int.toNat_natCast]; exact k2.1, by rw [Int.toNat_natCast]; exact h3.1, l1, l2, l3⟩]
          have HN := Aside0.mk (fun X => hn X (by omega) (by omega) (by omega))
          clear k1 k2 h3 hn l1 l2 l3
          go_enter Try.func36, Try.ntmps36
          have tk4_ : True := trivial
          have tk5_ : True := trivial
          go_wp2_with (first | (go_at_call 93; refine (HA.out _).mono ?_; rintro e_ w1 ⟨rfl, hb⟩; replace HS := sB HS hb; clear hb) | (go_at_call 63; clear tk4_; refine (HW1.out _).mono ?_; rintro e_ w1 ⟨rfl, hb⟩; replace HS := sB HS hb; clear hb) | (go_at_call 63; clear tk5_; refine (HW2.out _).mono ?_; rintro e_ w1 ⟨rfl, hb⟩; replace HS := sB HS hb; clear hb) | (go_at_call 63; refine (HW3.out _).mono ?_; rintro e_ w1 ⟨rfl, hb⟩; replace HS := sB HS hb; clear hb) | (go_at_call 88; refine (HN.out _).mono ?_; rintro e_ w1 ⟨rfl, hb⟩; replace HS := sB HS hb; clear hb))
          go_ret2
          exact ⟨rfl, HS.out.below⟩
set_option maxHeartbeats 8000000 in
theorem specShuffleNumberP (d : Int) (v u t : ByteArray) (w : World) (hv : v.size ≤ 1048576) (hu : u.size ≤ 1048576) (ht : t.size ≤ 1048576) :
    Calls Try.prog 49 #[.int .i64 d, .string v, .string u, .string t] w (RetII2 w (snR d v u t)) := by
  have HS := Aside0.mk (Sep.refl w)
  have HA := Aside0.mk (fun X => specInB d 1 3 X)
  cases h : inR d 1 3 with
  | false =>
    rw [h] at HA
    rw [snR_no (fun k => by have k1 := k.1; rw [h] at k1; cases k1)]
    clear h
    go_enter Try.func49, Try.ntmps49
    go_wp2_with (first | (go_at_call 61; refine (HA.out _).mono ?_; rintro e_ w1 ⟨rfl, hb⟩; replace HS := sB HS hb; clear hb))
    go_ret2
    exact ⟨rfl, HS.out.below⟩
  | true =>
    rw [h] at HA
    obtain ⟨e, rfl⟩ : ∃ e : Nat, d = (e : Int) := ⟨d.toNat, by have := (inR_iff _ _ _).1 h; omega⟩
    have he9 : e ≤ 9 := by have := (inR_iff _ _ _).1 h; omega
    have HI := Aside0.mk h
    have HW1 := Aside0.mk (fun X => specWord e he9 v (by omega) X)
    have HW2 := Aside0.mk (fun X => specWord e he9 u (by omega) X)
    have HW3 := Aside0.mk (fun X => specWord e he9 t (by omega) X)
    clear h
    cases h1 : isWd e v with
    | false =>
      rw [h1] at HW1
      rw [snR_no (fun k => by obtain ⟨_, k2, k3, k4, k5, k6, k7⟩ := k; rw [Int.toNat_natCast, h1] at k2; cases k2)]
      clear h1
      go_enter Try.func49, Try.ntmps49
      go_wp2_with (first | (go_at_call 61; refine (HA.out _).mono ?_; rintro e_ w1 ⟨rfl, hb⟩; replace HS := sB HS hb; clear hb) | (go_at_call 90; refine (HW1.out _).mono ?_; rintro e_ w1 ⟨rfl, hb⟩; replace HS := sB HS hb; clear hb))
      go_ret2
      exact ⟨rfl, HS.out.below⟩
    | true =>
      rw [h1] at HW1
      have G1 := Aside0.mk h1
      clear h1
      cases h2 : isWd e u with
      | false =>
        rw [h2] at HW2
        rw [snR_no (fun k => by obtain ⟨_, k2, k3, k4, k5, k6, k7⟩ := k; rw [Int.toNat_natCast, h2] at k3; cases k3)]
        clear h2
        go_enter Try.func49, Try.ntmps49
        have tk6_ : True := trivial
        go_wp2_with (first | (go_at_call 61; refine (HA.out _).mono ?_; rintro e_ w1 ⟨rfl, hb⟩; replace HS := sB HS hb; clear hb) | (go_at_call 90; clear tk6_; refine (HW1.out _).mono ?_; rintro e_ w1 ⟨rfl, hb⟩; replace HS := sB HS hb; clear hb) | (go_at_call 90; refine (HW2.out _).mono ?_; rintro e_ w1 ⟨rfl, hb⟩; replace HS := sB HS hb; clear hb))
        go_ret2
        exact ⟨rfl, HS.out.below⟩
      | true =>
        rw [h2] at HW2
        have G2 := Aside0.mk h2
        clear h2
        cases h3 : isWd e t with
        | false =>
          rw [h3] at HW3
          rw [snR_no (fun k => by obtain ⟨_, k2, k3, k4, k5, k6, k7⟩ := k; rw [Int.toNat_natCast, h3] at k4; cases k4)]
          clear h3
          go_enter Try.func49, Try.ntmps49
          have tk7_ : True := trivial
          have tk8_ : True := trivial
          go_wp2_with (first | (go_at_call 61; refine (HA.out _).mono ?_; rintro e_ w1 ⟨rfl, hb⟩; replace HS := sB HS hb; clear hb) | (go_at_call 90; clear tk7_; refine (HW1.out _).mono ?_; rintro e_ w1 ⟨rfl, hb⟩; replace HS := sB HS hb; clear hb) | (go_at_call 90; clear tk8_; refine (HW2.out _).mono ?_; rintro e_ w1 ⟨rfl, hb⟩; replace HS := sB HS hb; clear hb) | (go_at_call 90; refine (HW3.out _).mono ?_; rintro e_ w1 ⟨rfl, hb⟩; replace HS := sB HS hb; clear hb))
          go_ret2
          exact ⟨rfl, HS.out.below⟩
        | true =>
          rw [h3] at HW3
          have G3 := Aside0.mk h3
          clear h3
          by_cases s1 : v.size ≤ 8
          · have z1 : ¬ ((8 : Int) < (v.size : Int)) := by omega
            by_cases s2 : u.size ≤ 8
            · have z2 : ¬ ((8 : Int) < (u.size : Int)) := by omega
              by_cases s3 : t.size ≤ 8
              · have z3 : ¬ ((8 : Int) < (t.size : Int)) := by omega
                rw [snR_yes ⟨HI.out, by rw [Int.toNat_natCast]; exact G1.out, by rw [Int.toNat_natCast]; exact G2.out, by rw [Int.toNat_natCast]; exact G3.out, s1, s2, s3⟩]
                have HN := Aside0.mk (fun X => specNum v u t X (by omega) (by omega) (by omega))
                go_enter Try.func49, Try.ntmps49
                have tk9_ : True := trivial
                have tk10_ : True := trivial
                go_wp2_with (first | (go_at_call 61; refine (HA.out _).mono ?_; rintro e_ w1 ⟨rfl, hb⟩; replace HS := sB HS hb; clear hb) | (go_at_call 90; clear tk9_; refine (HW1.out _).mono ?_; rintro e_ w1 ⟨rfl, hb⟩; replace HS := sB HS hb; clear hb) | (go_at_call 90; clear tk10_; refine (HW2.out _).mono ?_; rintro e_ w1 ⟨rfl, hb⟩; replace HS := sB HS hb; clear hb) | (go_at_call 90; refine (HW3.out _).mono ?_; rintro e_ w1 ⟨rfl, hb⟩; replace HS := sB HS hb; clear hb) | (go_at_call 92; refine (HN.out _).mono ?_; rintro e_ w1 ⟨rfl, hb⟩; replace HS := sB HS hb; clear hb))
                go_ret2
                exact ⟨rfl, HS.out.below⟩
              · have z3 : ((8 : Int) < (t.size : Int)) := by omega
                rw [snR_no (fun k => by obtain ⟨_, k2, k3, k4, k5, k6, k7⟩ := k; omega)]
                go_enter Try.func49, Try.ntmps49
                have tk11_ : True := trivial
                have tk12_ : True := trivial
                go_wp2_with (first | (go_at_call 61; refine (HA.out _).mono ?_; rintro e_ w1 ⟨rfl, hb⟩; replace HS := sB HS hb; clear hb) | (go_at_call 90; clear tk11_; refine (HW1.out _).mono ?_; rintro e_ w1 ⟨rfl, hb⟩; replace HS := sB HS hb; clear hb) | (go_at_call 90; clear tk12_; refine (HW2.out _).mono ?_; rintro e_ w1 ⟨rfl, hb⟩; replace HS := sB HS hb; clear hb) | (go_at_call 90; refine (HW3.out _).mono ?_; rintro e_ w1 ⟨rfl, hb⟩; replace HS := sB HS hb; clear hb))
                go_ret2
                exact ⟨rfl, HS.out.below⟩
            · have z2 : ((8 : Int) < (u.size : Int)) := by omega
              rw [snR_no (fun k => by obtain ⟨_, k2, k3, k4, k5, k6, k7⟩ := k; omega)]
              go_enter Try.func49, Try.ntmps49
              have tk13_ : True := trivial
              have tk14_ : True := trivial
              go_wp2_with (first | (go_at_call 61; refine (HA.out _).mono ?_; rintro e_ w1 ⟨rfl, hb⟩; replace HS := sB HS hb; clear hb) | (go_at_call 90; clear tk13_; refine (HW1.out _).mono ?_; rintro e_ w1 ⟨rfl, hb⟩; replace HS := sB HS hb; clear hb) | (go_at_call 90; clear tk14_; refine (HW2.out _).mono ?_; rintro e_ w1 ⟨rfl, hb⟩; replace HS := sB HS hb; clear hb) | (go_at_call 90; refine (HW3.out _).mono ?_; rintro e_ w1 ⟨rfl, hb⟩; replace HS := sB HS hb; clear hb))
              go_ret2
              exact ⟨rfl, HS.out.below⟩
          · have z1 : ((8 : Int) < (v.size : Int)) := by omega
            rw [snR_no (fun k => by obtain ⟨_, k2, k3, k4, k5, k6, k7⟩ := k; omega)]
            go_enter Try.func49, Try.ntmps49
            have tk15_ : True := trivial
            have tk16_ : True := trivial
            go_wp2_with (first | (go_at_call 61; refine (HA.out _).mono ?_; rintro e_ w1 ⟨rfl, hb⟩; replace HS := sB HS hb; clear hb) | (go_at_call 90; clear tk15_; refine (HW1.out _).mono ?_; rintro e_ w1 ⟨rfl, hb⟩; replace HS := sB HS hb; clear hb) | (go_at_call 90; clear tk16_; refine (HW2.out _).mono ?_; rintro e_ w1 ⟨rfl, hb⟩; replace HS := sB HS hb; clear hb) | (go_at_call 90; refine (HW3.out _).mono ?_; rintro e_ w1 ⟨rfl, hb⟩; replace HS := sB HS hb; clear hb))
            go_ret2
            exact ⟨rfl, HS.out.below⟩
end Go.Proofs.Ytibjkjhpfmmjoaa.H



