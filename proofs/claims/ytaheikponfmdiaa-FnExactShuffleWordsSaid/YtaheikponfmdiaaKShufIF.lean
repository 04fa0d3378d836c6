/- Shuffles and half shuffles of series: what the program's 'shuffled' returns. Conditions: the bounds that stand in each statement. -/
import Derived.Test.YtaheikponfmdiaaKShufP
import Derived.Test.YtaheikponfmdiaaKSh0
import Derived.Test.YtaheikponfmdiaaKTabR
namespace Go.Proofs.Ytaheikponfmdiaa.H
open Go.RowKit Go.Proofs.YtaheikponfmdiaaW.PrintWords Go.Proofs.YtaheikponfmdiaaW.PrintLast Go.Proofs.YtaheikponfmdiaaW.PrintMore Go.Proofs.Ytaheikponfmdiaa.M
attribute [local go_sem] max2_int min2_int max_two min_two max_three min_three max_four min_four
set_option linter.unusedVariables false
set_option linter.unusedSimpArgs false
set_option maxRecDepth 100000
set_option maxHeartbeats 16000000 in
theorem implShuffledF (d n : Nat) (hl : lev d n = true) (A : Option Addr) (c : Nat) (l : Ts) (A2 : Option Addr) (cc : Nat) (l2 : Ts) (w : World) (hr : KT.C w A l.length l) (hr2 : KT.C w A2 l2.length l2) (hx : isTs d n l = true) (hy : isTs d n l2 = true) :
    Calls Try.prog 87 #[.agg #[.int .i64 (d : Int), .int .i64 (n : Int), .slice A l.length c], .agg #[.int .i64 (d : Int), .int .i64 (n : Int), .slice A2 l2.length cc], .func (.func 88) #[] #[], .bool false] w (RetT w d n (shS d n false l l2)) := by
  obtain ⟨hd1, hd3, hn1, hn5⟩ := lev_bd hl
  have hd9 : d ≤ 9 := by omega
  have HR := Aside0.mk hr
  have HR2 := Aside0.mk hr2
  have HL := Aside0.mk hl
  have hll := (bnd_iff.1 (isTs_bnd hd3 hn5 hx)).1
  have hll2 := (bnd_iff.1 (isTs_bnd hd3 hn5 hy)).1
  have HSM := Aside0.mk (fun k (h : k < l.length) => (by rw [getD_lt l zT k h]; exact (isTs_iff.1 hx).1 _ (List.getElem_mem h) : isTm d n (l.getD k zT) = true))
  have HSM2 := Aside0.mk (fun k (h : k < l2.length) => (by rw [getD_lt l2 zT k h]; exact (isTs_iff.1 hy).1 _ (List.getElem_mem h) : isTm d n (l2.getD k zT) = true))
  have HNW := Aside0.mk (fun W => tabNew hl W)
  have HAD := Aside0.mk (fun g v bad f s a W k1 k2 k3 k4 k5 k6 => implAdd g v d n bad f s a W hl k1 k2 k3 k4 k5 k6)
  have HEND := Aside0.mk (fun (i : Nat) (F : Tb) (h : Rel d n (foldA d n false l l2 i) F) (hi : i = l.length) => sh_rel h hi)
  have HS := Aside0.mk (Sep.refl w)
  obtain ⟨N, hN⟩ : ∃ N, N = nW d n := ⟨_, rfl⟩
  unfold RetT at HNW
  rw [← hN] at HNW HAD
  unfold RetT
  rw [← hN]
  clear hr hr2 hx hy hl hN
  go_enter Try.func87, Try.ntmps87
  go_wp2_with (first | ((with_reducible refine gate_dst (N := 4) rfl ?_); refine bxL 24 #[.int .i64 (d : Int), .int .i64 (n : Int), .slice A l.length c] HS ?_; clear HS; intro g_p w1 hg_p HS) | ((with_reducible refine gate_dst (N := 5) rfl ?_); refine bxL 24 #[.int .i64 (d : Int), .int .i64 (n : Int), .slice A2 l2.length cc] HS ?_; clear HS; intro g_q w1 hg_q HS; have f1_ := HS.out.c 1 0 (v := .int .i64 (d : Int)) rfl rfl; have f2_ := HS.out.c 1 1 (v := .int .i64 (n : Int)) rfl rfl) | (go_at_call 143; refine (HNW.out _).mono ?_; rintro e_ w1 ⟨g, v, F, rfl, hF, hQ, hs⟩; replace HS := sN2 HS hs; clear hs f1_ f2_; have HF := Aside0.mk hF; have HQ := Aside0.mk hQ; clear hF hQ; have f1_ := HS.out.c 3 2 (v := .slice A l.length c) rfl rfl))
  go_loopw [27] (fun z w' => ∃ (i : Nat) (F : Tb), i ≤ l.length ∧ z = .int .i64 (i : Int) ∧ Aside0 (good F.1) ∧ Aside0 (Rel d n (foldA d n false l l2 i) F) ∧ Aside0 (Mod w w' No [tS g v d n N F.2, tV v d n F.1, bx g_q 24 #[.int .i64 (d : Int), .int .i64 (n : Int), .slice A2 l2.length cc], bx g_p 24 #[.int .i64 (d : Int), .int .i64 (n : Int), .slice A l.length c]])) (fun z _ => l.length - (intOf z).toNat)
  case atStart => exact ⟨0, F, by omega, rfl, HF, HQ, HS⟩
  case round =>
    clear HS HF HQ
    obtain ⟨i, F, hi, rfl, HF, HQ, HS⟩ := hrel
    by_cases hlt : i < l.length
    · have htm := HSM.out i hlt
      have hgt := Aside0.mk (getD_lt l zT i hlt)
      obtain ⟨ad_A, ea_, h0_, h1_, h2_⟩ := tm_at HR.out i (hlt)
      cases ea_
      obtain ⟨t_, ht_⟩ : ∃ t_, t_ = l.getD i zT := ⟨_, rfl⟩
      rw [← ht_] at h0_ h1_ h2_
      have Et_ := Aside0.mk ht_; have H0t_ := Aside0.mk h0_; have H1t_ := Aside0.mk h1_; have H2t_ := Aside0.mk h2_
      clear ht_ h0_ h1_ h2_
      rw [← Et_.out] at htm hgt
      have HE1 := Aside0.mk (show l[i]? = some t_ by rw [hgt.out]; exact List.getElem?_eq_getElem hlt)
      have HTM := Aside0.mk (isTm_fr htm)
      have hts : t_.1.size ≤ 5 := by have := HTM.out.2.2.2; omega
      clear htm hgt
      have HNA := Aside0.mk (foldA_next (d := d) (n := n) (half := false) (y := l2) HE1.out)
      obtain ⟨o1, ho1⟩ : ∃ o, o = foldA d n false l l2 i := ⟨_, rfl⟩
      rw [← ho1] at HNA HQ
      clear ho1
      have f1_ := HS.out.old H0t_.out
      have f2_ := HS.out.old H1t_.out
      have f3_ := HS.out.old H2t_.out
      go_wp2_with (first | ((with_reducible refine gate_dst (N := 11) rfl ?_); refine bxL 66 #[(.string ⟨#[]⟩), (.int .i64 0), (.int .i64 0)] HS ?_; clear HS f1_ f2_ f3_; intro g_x w1 hg_x HS) | ((with_reducible refine gate_store (t := 66) (p := 11) rfl ?_); refine stL HS 0 0 #[.string t_.1, .int .i64 t_.2.1, .int .i64 t_.2.2] rfl rfl rfl rfl rfl ?_; clear HS; intro w1 HS; have f1_ := HS.out.c 3 2 (v := .slice A2 l2.length cc) rfl rfl))
      go_loopw [40] (fun z w' => ∃ (j : Nat) (F : Tb), j ≤ l2.length ∧ z = .int .i64 (j : Int) ∧ Aside0 (good F.1) ∧ Aside0 (Rel d n (foldB d n false t_ o1 l2 j) F) ∧ Aside0 (Mod w w' No [bx g_x 66 #[.string t_.1, .int .i64 t_.2.1, .int .i64 t_.2.2], tS g v d n N F.2, tV v d n F.1, bx g_q 24 #[.int .i64 (d : Int), .int .i64 (n : Int), .slice A2 l2.length cc], bx g_p 24 #[.int .i64 (d : Int), .int .i64 (n : Int), .slice (some ad_A) l.length c]])) (fun z _ => l2.length - (intOf z).toNat)
      case atStart => exact ⟨0, F, by omega, rfl, HF, ⟨by rw [foldB_zero]; exact HQ.out⟩, HS⟩
      case round =>
        clear HS HF HQ
        obtain ⟨j, F, hj, rfl, HF, HQ, HS⟩ := hrel
        by_cases hlt2 : j < l2.length
        · have htm := HSM2.out j hlt2
          have hgt := Aside0.mk (getD_lt l2 zT j hlt2)
          obtain ⟨ad_A2, ea_, h0_, h1_, h2_⟩ := tm_at HR2.out j (hlt2)
          cases ea_
          obtain ⟨t2_, ht_⟩ : ∃ t_, t_ = l2.getD j zT := ⟨_, rfl⟩
          rw [← ht_] at h0_ h1_ h2_
          have Et2_ := Aside0.mk ht_; have H0t2_ := Aside0.mk h0_; have H1t2_ := Aside0.mk h1_; have H2t2_ := Aside0.mk h2_
          clear ht_ h0_ h1_ h2_
          rw [← Et2_.out] at htm hgt
          have HE2 := Aside0.mk (show l2[j]? = some t2_ by rw [hgt.out]; exact List.getElem?_eq_getElem hlt2)
          have HTM2 := Aside0.mk (isTm_fr htm)
          have hts2 : t2_.1.size ≤ 5 := by have := HTM2.out.2.2.2; omega
          clear htm hgt
          have HHF := Aside0.mk (show ¬ (false = true ∧ t_.1.size = 0) by rintro ⟨h1_, h2_⟩; first | omega | cases h1_)
          have HLG := Aside0.mk (fun h => foldB_long (d := d) (n := n) (half := false) (o := o1) HE2.out HHF.out h)
          have HOP := Aside0.mk (fun h => foldB_open (d := d) (n := n) (half := false) (o := o1) HE2.out HHF.out h)
          obtain ⟨o2, ho2⟩ : ∃ o, o = foldB d n false t_ o1 l2 j := ⟨_, rfl⟩
          rw [← ho2] at HLG HOP HQ
          clear ho2
          obtain ⟨m, hm⟩ : ∃ m, m = mul t_.2 t2_.2 := ⟨_, rfl⟩
          have HP := Aside0.mk (fun W => hm ▸ implTimesF t_.2 t2_.2 W HTM.out.1 HTM2.out.1)
          have HMF := Aside0.mk (orZ_fr (o := m) (fun e he => mul_fr (by rw [← hm]; exact he)))
          rw [← hm] at HLG HOP
          clear hm
          by_cases hlong : n < t_.1.size + t2_.1.size
          · have HN := Aside0.mk (HLG.out hlong)
            have hlb : ((n : Int) < (t_.1.size : Int) + (t2_.1.size : Int)) := by omega
            have HQ2 := Aside0.mk (show Rel d n (foldB d n false t_ o1 l2 (j + 1)) (F.1, F.2 || m.isNone) by rw [HN.out]; exact rel_check HQ.out m)
            have f1_ := HS.out.old H0t2_.out
            have f2_ := HS.out.old H1t2_.out
            have f3_ := HS.out.old H2t2_.out
            go_wp2_with (first | ((with_reducible refine gate_dst (N := 13) rfl ?_); refine bxL 66 #[(.string ⟨#[]⟩), (.int .i64 0), (.int .i64 0)] HS ?_; clear HS f1_ f2_ f3_; intro g_y w1 hg_y HS) | ((with_reducible refine gate_store (t := 66) (p := 13) rfl ?_); refine stL HS 0 0 #[.string t2_.1, .int .i64 t2_.2.1, .int .i64 t2_.2.2] rfl rfl rfl rfl rfl ?_; clear HS; intro w1 HS; have f1_ := HS.out.c 1 1 (v := .int .i64 t_.2.1) rfl rfl; have f2_ := HS.out.c 1 2 (v := .int .i64 t_.2.2) rfl rfl; have f3_ := HS.out.c 0 1 (v := .int .i64 t2_.2.1) rfl rfl; have f4_ := HS.out.c 0 2 (v := .int .i64 t2_.2.2) rfl rfl) | (go_at_call 110; refine (HP.out _).mono ?_; rintro e_ w1 ⟨a, b, hab, rfl, hb⟩; replace HS := sB HS hb; clear hb f1_ f2_ f3_ f4_) | (go_at_call 152; refine (implCheckO g v d n N F.2 m a b hab _ (HS.out.at (i := 2) rfl)).mono ?_; rintro e_ w1 ⟨rfl, hs⟩; replace HS : Aside0 (Mod _ _ _ [_, _, _, _, _, _]) := sM1 HS 2 [0, 1, 3, 4, 5] rfl hs; clear hs; clear hab) | ((with_reducible refine gate_dst (N := 14) rfl ?_); refine bxL 35 #[(.int .i64 0), (.int .i64 0)] HS ?_; clear HS; intro g_vb w1 hg_vb HS) | ((with_reducible refine gate_store (t := 35) (p := 14) rfl ?_); refine stL HS 0 0 #[.int .i64 (orZ m).1, .int .i64 (orZ m).2] rfl rfl rfl rfl rfl ?_; clear HS; intro w1 HS; have f1_ := HS.out.c 3 0 (v := .string t_.1) rfl rfl; have f2_ := HS.out.c 2 0 (v := .string t2_.1) rfl rfl; have f3_ := HS.out.c 6 1 (v := .int .i64 (n : Int)) rfl rfl))
            replace HS : Aside0 (Mod _ _ _ [_, _, _, _, _]) := sX HS [1, 3, 4, 5, 6]
            go_roundw
            case rel => exact ⟨j + 1, (F.1, F.2 || m.isNone), by omega, by go_num, HF, HQ2, sX HS [1, 0, 2, 3, 4]⟩
            case measure => simp [intOf]; omega
          · have HN := Aside0.mk (HOP.out hlong)
            have HQ2 := Aside0.mk (show Rel d n (pairO false t_.1 t2_.1 o2 m ((wordsN d (t_.1.size + t2_.1.size)).take 0)) (F.1, F.2 || m.isNone) by rw [List.take_zero, pairO_nil]; exact rel_check HQ.out m)
            have HWD := Aside0.mk (fun X => implWords d (t_.1.size + t2_.1.size) X hd3 (by omega))
            have HSZ := Aside0.mk (fun (k : Nat) (s : ByteArray) (h : (wordsN d (t_.1.size + t2_.1.size))[k]? = some s) => word_at hd9 h)
            have hul := wordsN_le (d := d) (n := t_.1.size + t2_.1.size) hd3 (by omega)
            obtain ⟨us, hus⟩ : ∃ us, us = wordsN d (t_.1.size + t2_.1.size) := ⟨_, rfl⟩
            rw [← hus] at HN HQ2 HWD HSZ hul
            clear hus
            have f1_ := HS.out.old H0t2_.out
            have f2_ := HS.out.old H1t2_.out
            have f3_ := HS.out.old H2t2_.out
            go_wp2_with (first | ((with_reducible refine gate_dst (N := 13) rfl ?_); refine bxL 66 #[(.string ⟨#[]⟩), (.int .i64 0), (.int .i64 0)] HS ?_; clear HS f1_ f2_ f3_; intro g_y w1 hg_y HS) | ((with_reducible refine gate_store (t := 66) (p := 13) rfl ?_); refine stL HS 0 0 #[.string t2_.1, .int .i64 t2_.2.1, .int .i64 t2_.2.2] rfl rfl rfl rfl rfl ?_; clear HS; intro w1 HS; have f1_ := HS.out.c 1 1 (v := .int .i64 t_.2.1) rfl rfl; have f2_ := HS.out.c 1 2 (v := .int .i64 t_.2.2) rfl rfl; have f3_ := HS.out.c 0 1 (v := .int .i64 t2_.2.1) rfl rfl; have f4_ := HS.out.c 0 2 (v := .int .i64 t2_.2.2) rfl rfl) | (go_at_call 110; refine (HP.out _).mono ?_; rintro e_ w1 ⟨a, b, hab, rfl, hb⟩; replace HS := sB HS hb; clear hb f1_ f2_ f3_ f4_) | (go_at_call 152; refine (implCheckO g v d n N F.2 m a b hab _ (HS.out.at (i := 2) rfl)).mono ?_; rintro e_ w1 ⟨rfl, hs⟩; replace HS : Aside0 (Mod _ _ _ [_, _, _, _, _, _]) := sM1 HS 2 [0, 1, 3, 4, 5] rfl hs; clear hs; clear hab) | ((with_reducible refine gate_dst (N := 14) rfl ?_); refine bxL 35 #[(.int .i64 0), (.int .i64 0)] HS ?_; clear HS; intro g_vb w1 hg_vb HS) | ((with_reducible refine gate_store (t := 35) (p := 14) rfl ?_); refine stL HS 0 0 #[.int .i64 (orZ m).1, .int .i64 (orZ m).2] rfl rfl rfl rfl rfl ?_; clear HS; intro w1 HS; have f1_ := HS.out.c 3 0 (v := .string t_.1) rfl rfl; have f2_ := HS.out.c 2 0 (v := .string t2_.1) rfl rfl; have f3_ := HS.out.c 6 1 (v := .int .i64 (n : Int)) rfl rfl; have f4_ := HS.out.c 6 0 (v := .int .i64 (d : Int)) rfl rfl) | (go_at_call 127; refine (HWD.out _).mono ?_; rintro e_ w1 ⟨B1, b1, rfl, hs⟩; replace HS := sN1 HS hs; clear hs f1_ f2_ f3_ f4_))
            go_loopw [69] (fun z w' => ∃ (k : Nat) (H : Tb), k ≤ us.length ∧ z = .int .i64 (k : Int) ∧ Aside0 (good H.1) ∧ Aside0 (Rel d n (pairO false t_.1 t2_.1 o2 m (us.take k)) H) ∧ Aside0 (Mod w w' No [rowS B1 b1 us, bx g_vb 35 #[.int .i64 (orZ m).1, .int .i64 (orZ m).2], tS g v d n N H.2, bx g_y 66 #[.string t2_.1, .int .i64 t2_.2.1, .int .i64 t2_.2.2], bx g_x 66 #[.string t_.1, .int .i64 t_.2.1, .int .i64 t_.2.2], tV v d n H.1, bx g_q 24 #[.int .i64 (d : Int), .int .i64 (n : Int), .slice (some ad_A2) l2.length cc], bx g_p 24 #[.int .i64 (d : Int), .int .i64 (n : Int), .slice (some ad_A) l.length c]])) (fun z _ => us.length - (intOf z).toNat)
            case atStart => exact ⟨0, (F.1, F.2 || m.isNone), by omega, rfl, HF, HQ2, HS⟩
            case round =>
              clear HS HF HQ HQ2
              obtain ⟨k, H, hk, rfl, HF, HQ, HS⟩ := hrel
              by_cases hlt3 : k < us.length
              · obtain ⟨ad, ea, h_⟩ := str_at (HS.out.reads 0 rfl) k hlt3
                clear h_
                cases ea
                obtain ⟨s, hs⟩ : ∃ s, us[k]? = some s := ⟨_, List.getElem?_eq_getElem hlt3⟩
                have HE := Aside0.mk hs
                have HSW := Aside0.mk (HSZ.out k s hs)
                have hss : s.size ≤ 5 := by have := HSW.out.1; omega
                have hsn : s.size ≤ n := by have := HSW.out.1; omega
                have HZ0 := Aside0.mk (fun h => pairO_zero (half := false) (v := t_.1) (w := t2_.1) (o := o2) (m := m) hs h)
                have HZ1 := Aside0.mk (fun h => rel_word HQ.out HF.out hs h HSW.out.2 hsn)
                have hm3 := numS_le false t_.1 t2_.1 s
                have hm4 := shN_le' (v := bl t_.1) (w := bl t2_.1) (u := bl s) (by rw [bl_len]; omega)
                have HNM := Aside0.mk (fun X => implShuffleNumber t_.1 t2_.1 s X (by omega) (by omega) (by omega))
                rw [show sh (bl t_.1) (bl t2_.1) (bl s) = numS false t_.1 t2_.1 s from rfl] at HNM
                obtain ⟨k2, hk2⟩ : ∃ k, k = numS false t_.1 t2_.1 s := ⟨_, rfl⟩
                have hkb : k2 ≤ 65536 := by omega
                rw [← hk2] at HZ0 HZ1 HNM
                clear hs hm3 hm4 hk2
                by_cases h0 : k2 = 0
                · have HQ2 := Aside0.mk (show Rel d n (pairO false t_.1 t2_.1 o2 m (us.take (k + 1))) H by rw [HZ0.out h0]; exact HQ.out)
                  have hgb : ¬ ((0 : Int) < (k2 : Int)) := by omega
                  clear h0
                  have f1_ := HS.out.str 0 rfl HE.out
                  have f2_ := HS.out.c 4 0 (v := .string t_.1) rfl rfl
                  have f3_ := HS.out.c 3 0 (v := .string t2_.1) rfl rfl
                  go_wp2_with (first | (go_at_call 88; refine (HNM.out _).mono ?_; rintro e_ w1 ⟨rfl, hb⟩; replace HS := sB HS hb; clear hb f1_ f2_ f3_))
                  go_roundw
                  case rel => exact ⟨k + 1, H, by omega, by go_num, HF, HQ2, HS⟩
                  case measure => simp [intOf]; omega
                · obtain ⟨hz1, hz2⟩ := HZ1.out h0
                  have HQ2 := Aside0.mk hz1
                  have HF2 := Aside0.mk hz2
                  have hgb : (0 : Int) < (k2 : Int) := by omega
                  clear h0 hz1 hz2
                  obtain ⟨e, he⟩ : ∃ e, e = mul (orZ m) ((k2 : Nat), 1) := ⟨_, rfl⟩
                  have HTW := Aside0.mk (fun W => he ▸ implTimesW (orZ m) k2 W HMF.out hkb)
                  have HEF := Aside0.mk (orZ_fr (o := e) (fun c hc => mul_fr (by rw [← he]; exact hc)))
                  rw [← he] at HQ2 HF2
                  clear he
                  have f1_ := HS.out.str 0 rfl HE.out
                  have f2_ := HS.out.c 4 0 (v := .string t_.1) rfl rfl
                  have f3_ := HS.out.c 3 0 (v := .string t2_.1) rfl rfl
                  go_wp2_with (first | (go_at_call 88; refine (HNM.out _).mono ?_; rintro e_ w1 ⟨rfl, hb⟩; replace HS := sB HS hb; clear hb f1_ f2_ f3_; have f1_ := HS.out.c 1 0 (v := .int .i64 (orZ m).1) rfl rfl; have f2_ := HS.out.c 1 1 (v := .int .i64 (orZ m).2) rfl rfl) | (go_at_call 154; refine (HTW.out _).mono ?_; rintro e_ w1 ⟨a, b, hab, rfl, hb⟩; replace HS := sB HS hb; clear hb f1_ f2_) | (go_at_call 152; refine (implCheckO g v d n N H.2 e a b hab _ (HS.out.at (i := 2) rfl)).mono ?_; rintro e_ w1 ⟨rfl, hs⟩; replace HS : Aside0 (Mod _ _ _ [_, _, _, _, _, _, _, _]) := sM1 HS 2 [0, 1, 3, 4, 5, 6, 7] rfl hs; clear hs; clear hab) | (go_at_call 153; refine (HAD.out g v (H.2 || e.isNone) H.1 s (orZ e) _ (HS.out.at (i := 0) rfl) (HS.out.at (i := 5) rfl) HSW.out.2 hsn (HF.out s) HEF.out).mono ?_; rintro e_ w1 ⟨rfl, hs⟩; replace HS : Aside0 (Mod _ _ _ [_, _, _, _, _, _, _, _]) := sM2 HS 0 5 [1, 2, 3, 4, 6, 7] rfl rfl hs; clear hs))
                  go_roundw
                  case rel => exact ⟨k + 1, addT H (s, e), by omega, by go_num, HF2, HQ2, sX HS [2, 3, 0, 4, 5, 1, 6, 7]⟩
                  case measure => simp [intOf]; omega
              · obtain rfl : k = us.length := by omega
                have HQ2 := Aside0.mk (show Rel d n (foldB d n false t_ o1 l2 (j + 1)) H by rw [HN.out]; have h := HQ.out; rwa [List.take_length] at h)
                go_wp2
                replace HS : Aside0 (Mod _ _ _ [_, _, _, _, _]) := sX HS [2, 4, 5, 6, 7]
                go_roundw
                case rel => exact ⟨j + 1, H, by omega, by go_num, HF, HQ2, sX HS [1, 0, 2, 3, 4]⟩
                case measure => simp [intOf]; omega
        · obtain rfl : j = l2.length := by omega
          have HQ2 := Aside0.mk (show Rel d n (foldA d n false l l2 (i + 1)) F by rw [HNA.out]; exact HQ.out)
          go_wp2
          replace HS : Aside0 (Mod _ _ _ [_, _, _, _]) := sX HS [1, 2, 3, 4]
          go_roundw
          case rel => exact ⟨i + 1, F, by omega, by go_num, HF, HQ2, sX HS [0, 1, 2, 3]⟩
          case measure => simp [intOf]; omega
    · have HE := Aside0.mk (HEND.out i F HQ.out (by omega))
      obtain rfl : i = l.length := by omega
      go_wp2
      go_ret
      exact ⟨g, v, F, rfl, HF.out, HE.out, HS.out.sel [0, 1] (by decide)⟩
end Go.Proofs.Ytaheikponfmdiaa.H


