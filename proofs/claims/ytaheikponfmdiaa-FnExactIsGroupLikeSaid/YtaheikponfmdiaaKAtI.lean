/- The value at a shuffle: what the program's 'atShuffle' returns. Conditions: the bounds that stand in each statement. -/
import Derived.Test.YtaheikponfmdiaaKTold
import Derived.Test.YtaheikponfmdiaaKSh0
namespace Go.Proofs.Ytaheikponfmdiaa.H
open Go.RowKit Go.Proofs.YtaheikponfmdiaaW.PrintWords Go.Proofs.YtaheikponfmdiaaW.PrintLast Go.Proofs.YtaheikponfmdiaaW.PrintMore Go.Proofs.Ytaheikponfmdiaa.M
attribute [local go_sem] max2_int min2_int max_two min_two max_three min_three max_four min_four
set_option linter.unusedVariables false
set_option linter.unusedSimpArgs false
set_option maxRecDepth 100000
/-- A bool and a code. -/
def RetB (w : World) (r : Bool × Int) (e : Ending) (w' : World) : Prop := e = .returned (.tuple #[.bool r.1, .int .i64 r.2]) ∧ Below w.heap.size w w'
theorem cell_next {w : World} {ad : Addr} {i : Nat} {v : Value} (h : w.cell? (ad.add (i + 1)) = some v) : w.cell? ⟨ad.block, ad.off + 1 + i, none⟩ = some v := by
  rw [show ad.off + 1 + i = ad.off + (i + 1) by omega]; exact h
/-- A fraction, with any cells where it does not fit, and whether it fits. -/
def RetFX (w : World) (o : Option Fr) (e : Ending) (w' : World) : Prop := ∃ x y : Int, (∀ c, o = some c → c = (x, y)) ∧ e = .returned (.tuple #[.agg #[.int .i64 x, .int .i64 y], .bool o.isSome]) ∧ Below w.heap.size w w'
set_option maxHeartbeats 8000000 in
theorem implAtS (g v d n : Nat) (l : Ts) (a b : ByteArray) (W : World) (hl : lev d n = true) (hx : isTs d n l = true) (ht : (tS g v d n (nW d n) false).I W) (hv : (tV v d n (co l)).I W) (hab : a.size + b.size ≤ n) :
    Calls Try.prog 101 #[.pointer (some ⟨g, 0, none⟩), .string a, .string b] W (RetFX W (atS d l a b)) := by
  obtain ⟨hd1, hd3, hn1, hn5⟩ := lev_bd hl
  have hd9 : d ≤ 9 := by omega
  have HT := Aside0.mk ht
  have HV := Aside0.mk hv
  have hN0 : 0 < nW d n := num_lt' (s := eps) (by rfl) (Nat.zero_le _)
  have HLK := Aside0.mk (fun X k => implLike g v d n (nW d n) false X hl k)
  have HAT := Aside0.mk (fun s X k1 k2 k3 k4 => implAt g v d n false (co l) s X hl k1 k2 k3 k4)
  have HAD := Aside0.mk (fun g v bad f e X k1 k2 k5 k6 => implAdd g v d n bad f eps e X hl k1 k2 (by rfl) (Nat.zero_le _) k5 k6)
  have HCF := Aside0.mk (fun u => co_fr hx u)
  have HEND := Aside0.mk (at_end d l a b)
  rw [atU_words] at HEND
  have HWD := Aside0.mk (fun X => implWords d (a.size + b.size) X hd3 (by omega))
  have HSZ := Aside0.mk (fun (k : Nat) (s : ByteArray) (h : (wordsN d (a.size + b.size))[k]? = some s) => word_at hd9 h)
  have hul := wordsN_le (d := d) (n := a.size + b.size) hd3 (by omega)
  obtain ⟨us, hus⟩ : ∃ us, us = wordsN d (a.size + b.size) := ⟨_, rfl⟩
  rw [← hus] at HWD HSZ hul HEND
  obtain ⟨N, hN⟩ : ∃ N, N = nW d n := ⟨_, rfl⟩
  rw [← hN] at hN0 HLK HAT HAD HT
  have HS := Aside0.mk (Sep.refl W)
  clear hus hN ht hv hx hl
  go_enter Try.func101, Try.ntmps101
  go_wp2_with (first | ((with_reducible refine gate_dst (N := 6) rfl ?_); refine bxL 35 #[(.int .i64 0), (.int .i64 0)] HS ?_; clear HS; intro g_r w1 hg_r HS) | (go_at_call 165; refine (HLK.out _ (HS.out.oldI HT.out)).mono ?_; rintro e_ w1 ⟨g1, v1, rfl, hs⟩; replace HS := sN2 HS hs; clear hs; have f1_ := bx_c (HS.out.oldI HT.out) 0 (v := .int .i64 (d : Int)) rfl) | (go_at_call 127; refine (HWD.out _).mono ?_; rintro e_ w1 ⟨B1, b1, rfl, hs⟩; replace HS := sN1 HS hs; clear hs f1_))
  go_loopw [26] (fun q w' => ∃ (i : Nat) (F : Tb), i ≤ us.length ∧ q = .int .i64 (i : Int) ∧ Aside0 (F = addsT ((fun _ => (0, 1)), false) ((atL l a b (us.take i)).map fun p => (eps, p))) ∧ Aside0 (good F.1) ∧ Aside0 (Mod W w' No [rowS B1 b1 us, bx g1 132 #[.int .i64 (d : Int), .int .i64 (n : Int), .slice (some ⟨v1, 0, none⟩) N N, .bool F.2], tV v1 d n F.1, bx g_r 35 #[(.int .i64 0), (.int .i64 0)]])) (fun q _ => us.length - (intOf q).toNat)
  case atStart => exact ⟨0, ((fun _ => (0, 1)), false), by omega, rfl, ⟨rfl⟩, ⟨good_zero⟩, HS⟩
  case round =>
    clear HS
    obtain ⟨i, F, hi, rfl, HF, HGd, HS⟩ := hrel
    by_cases hlt : i < us.length
    · obtain ⟨ad, ea, h_⟩ := str_at (HS.out.reads 0 rfl) i hlt
      clear h_
      cases ea
      obtain ⟨s, hs⟩ : ∃ s, us[i]? = some s := ⟨_, List.getElem?_eq_getElem hlt⟩
      have HE := Aside0.mk hs
      have HSW := Aside0.mk (HSZ.out i s hs)
      have hss : s.size ≤ 5 := by have := HSW.out.1; omega
      have hsn : s.size ≤ n := by have := HSW.out.1; omega
      have HNX := Aside0.mk (atL_next (x := l) (v := a) (w := b) hs)
      have HNM := Aside0.mk (fun X => implShuffleNumber a b s X (by omega) (by omega) (by omega))
      have hm3 := shN_le' (v := bl a) (w := bl b) (u := bl s) (by rw [bl_len]; omega)
      have HEZ := Aside0.mk (fun h => atE_skip (x := l) (v := a) (w := b) (u := s) h)
      have HET := Aside0.mk (fun h1 h2 => atE_take (x := l) (v := a) (w := b) (u := s) h1 h2)
      have HBF := Aside0.mk (HCF.out s)
      have HAV := Aside0.mk (fun X k1 k2 => HAT.out s X k1 k2 HSW.out.2 hsn)
      obtain ⟨c, hc⟩ : ∃ c, c = co l s := ⟨_, rfl⟩
      rw [← hc] at HEZ HET HBF HAV
      clear hc
      obtain ⟨m, hm⟩ : ∃ m, m = sh (bl a) (bl b) (bl s) := ⟨_, rfl⟩
      rw [← hm] at HNM HEZ HET hm3
      clear hs hm
      have HSK := Aside0.mk (fun (h : atE l a b s = []) => (show F = addsT ((fun _ => (0, 1)), false) ((atL l a b (us.take (i + 1))).map fun p => (eps, p)) by rw [HNX.out, h, List.append_nil]; exact HF.out))
      by_cases h0 : m = 0
      · have HN := Aside0.mk (HSK.out (HEZ.out (.inl h0)))
        have hgb : ¬ ((0 : Int) < (m : Int)) := by omega
        clear h0
        have f1_ := HS.out.str 0 rfl HE.out
        go_wp2_with (first | (go_at_call 88; refine (HNM.out _).mono ?_; rintro e_ w1 ⟨rfl, hb⟩; replace HS := sB HS hb; clear hb f1_) | (go_at_call 109; refine (HAV.out _ (HS.out.oldI HT.out) (HS.out.oldI HV.out)).mono ?_; rintro e_ w1 ⟨rfl, hb⟩; replace HS := sB HS hb; clear hb) | ((with_reducible refine gate_dst (N := 12) rfl ?_); refine bxL 35 #[(.int .i64 0), (.int .i64 0)] HS ?_; clear HS; intro g_vb w1 hg_vb HS) | ((with_reducible refine gate_store (t := 35) (p := 12) rfl ?_); refine stL HS 0 0 #[.int .i64 c.1, .int .i64 c.2] rfl rfl rfl rfl rfl ?_; clear HS; intro w1 HS))
        replace HS : Aside0 (Mod _ _ _ [_, _, _, _]) := sX HS [1, 2, 3, 4]
        go_roundw
        case rel => exact ⟨i + 1, F, by omega, by go_num, HN, HGd, HS⟩
        case measure => simp [intOf]; omega
      · have hgb : (0 : Int) < (m : Int) := by omega
        by_cases hz : c.1 = 0
        · have HN := Aside0.mk (HSK.out (HEZ.out (.inr hz)))
          have hzb : (c.1 != 0) = false := by rw [hz]; rfl
          clear hz h0
          have f1_ := HS.out.str 0 rfl HE.out
          go_wp2_with (first | (go_at_call 88; refine (HNM.out _).mono ?_; rintro e_ w1 ⟨rfl, hb⟩; replace HS := sB HS hb; clear hb f1_) | (go_at_call 109; refine (HAV.out _ (HS.out.oldI HT.out) (HS.out.oldI HV.out)).mono ?_; rintro e_ w1 ⟨rfl, hb⟩; replace HS := sB HS hb; clear hb) | ((with_reducible refine gate_dst (N := 12) rfl ?_); refine bxL 35 #[(.int .i64 0), (.int .i64 0)] HS ?_; clear HS; intro g_vb w1 hg_vb HS) | ((with_reducible refine gate_store (t := 35) (p := 12) rfl ?_); refine stL HS 0 0 #[.int .i64 c.1, .int .i64 c.2] rfl rfl rfl rfl rfl ?_; clear HS; intro w1 HS; have f1_ := HS.out.c 0 0 (v := .int .i64 c.1) rfl rfl))
          replace HS : Aside0 (Mod _ _ _ [_, _, _, _]) := sX HS [1, 2, 3, 4]
          go_roundw
          case rel => exact ⟨i + 1, F, by omega, by go_num, HN, HGd, HS⟩
          case measure => simp [intOf]; omega
        · have hzb : (c.1 != 0) = true := by simpa using hz
          obtain ⟨o, ho⟩ : ∃ o, o = mul c ((m : Nat), 1) := ⟨_, rfl⟩
          have HTW := Aside0.mk (fun X => ho ▸ implTimesW c m X HBF.out (by omega))
          have HOF := Aside0.mk (fun e (he : o = some e) => (mul_fr (ho.symm.trans he) : fr e = true))
          have HEF := Aside0.mk (orZ_fr (o := o) (fun e he => HOF.out e he))
          have HN := Aside0.mk (show addT (F.1, F.2) (eps, o) = addsT ((fun _ => (0, 1)), false) ((atL l a b (us.take (i + 1))).map fun p => (eps, p)) by rw [HNX.out, HET.out h0 hz, ← ho, List.map_append]; unfold addsT; rw [List.foldl_append, show List.foldl addT ((fun _ => (0, 1)), false) ((atL l a b (us.take i)).map fun p => (eps, p)) = F from HF.out.symm]; rfl)
          clear h0 hz ho
          have f1_ := HS.out.str 0 rfl HE.out
          go_wp2_with (first | (go_at_call 88; refine (HNM.out _).mono ?_; rintro e_ w1 ⟨rfl, hb⟩; replace HS := sB HS hb; clear hb f1_) | (go_at_call 109; refine (HAV.out _ (HS.out.oldI HT.out) (HS.out.oldI HV.out)).mono ?_; rintro e_ w1 ⟨rfl, hb⟩; replace HS := sB HS hb; clear hb) | ((with_reducible refine gate_dst (N := 12) rfl ?_); refine bxL 35 #[(.int .i64 0), (.int .i64 0)] HS ?_; clear HS; intro g_vb w1 hg_vb HS) | ((with_reducible refine gate_store (t := 35) (p := 12) rfl ?_); refine stL HS 0 0 #[.int .i64 c.1, .int .i64 c.2] rfl rfl rfl rfl rfl ?_; clear HS; intro w1 HS; have f1_ := HS.out.c 0 0 (v := .int .i64 c.1) rfl rfl; have f2_ := HS.out.c 0 1 (v := .int .i64 c.2) rfl rfl) | (go_at_call 154; refine (HTW.out _).mono ?_; rintro e_ w1 ⟨x, y, hxy, rfl, hb⟩; replace HS := sB HS hb; clear hb f1_ f2_) | (go_at_call 152; refine (implCheckO g1 v1 d n N F.2 o x y hxy _ (HS.out.at (i := 2) rfl)).mono ?_; rintro e_ w1 ⟨rfl, hs⟩; replace HS : Aside0 (Mod _ _ _ [_, _, _, _, _]) := sM1 HS 2 [0, 1, 3, 4] rfl hs; clear hs; clear hxy) | (go_at_call 153; refine (HAD.out g1 v1 (F.2 || o.isNone) F.1 (orZ o) _ (HS.out.at (i := 0) rfl) (HS.out.at (i := 3) rfl) (HGd.out _) HEF.out).mono ?_; rintro e_ w1 ⟨rfl, hs⟩; replace HS : Aside0 (Mod _ _ _ [_, _, _, _, _]) := sM2 HS 0 3 [1, 2, 4] rfl rfl hs; clear hs))
          go_roundw
          case rel => exact ⟨i + 1, addT (F.1, F.2) (eps, o), by omega, by go_num, HN, ⟨addT_good HGd.out fun e he => HOF.out e he⟩, sX HS [3, 0, 1, 4]⟩
          case measure => simp [intOf]; omega
    · obtain rfl : i = us.length := by omega
      have HF2 := Aside0.mk (show F = addsT ((fun _ => (0, 1)), false) ((atL l a b us).map fun p => (eps, p)) by have h := HF.out; rwa [List.take_length] at h)
      obtain ⟨f, hf⟩ : ∃ f, f = F.1 eps := ⟨_, rfl⟩
      have HFE := Aside0.mk hf.symm
      obtain ⟨bd, hbd⟩ : ∃ bd, bd = F.2 := ⟨_, rfl⟩
      rw [← hbd] at HS
      have hend := HEND.out
      rw [← HF2.out, ← hf, ← hbd] at hend
      have HENDF := Aside0.mk hend
      clear hf hbd hend
      cases bd with
      | true =>
        go_wp2
        replace HS := sD HS
        refine ps (.p 0 (.p 1 (.p 2 (.p 6 (.p 7 (.p 8 (.t 3 (.p 4 (.t 5 (.t 9 (.p 10 (.e 11 (.p 12 .done))))))))))))) (fun w' => w'.cell? ⟨g1, 2, none⟩ = some (.slice (some ⟨v1, 0, none⟩) N N) ∧ w'.cell? ⟨v1, 0, none⟩ = some (.int .i64 f.1) ∧ w'.cell? ⟨v1, 1, none⟩ = some (.int .i64 f.2) ∧ w'.cell? ⟨g1, 3, none⟩ = some (.bool true)) [] ⟨HS.out.c 1 2 (v := .slice (some ⟨v1, 0, none⟩) N N) rfl rfl, (tv_eps (HS.out.at (i := 2) rfl) HFE.out).1, (tv_eps (HS.out.at (i := 2) rfl) HFE.out).2, HS.out.c 1 3 (v := .bool true) rfl rfl⟩ (fun hHeld => ?_)
        repeat (first | ((with_reducible refine gate_p ?_); refine rp rfl rfl ?_) | ((with_reducible refine gate_t ?_); refine rt rfl rfl hHeld ?_))
        refine run_e rfl (fun K hK => ?_)
        refine st1 HS 3 0 #[.int .i64 f.1, .int .i64 f.2] rfl rfl rfl rfl rfl ?_
        clear HS
        intro w1 HS
        refine goE hK ⟨HS.out.c 1 2 (v := .slice (some ⟨v1, 0, none⟩) N N) rfl rfl, (tv_eps (HS.out.at (i := 2) rfl) HFE.out).1, (tv_eps (HS.out.at (i := 2) rfl) HFE.out).2, HS.out.c 1 3 (v := .bool true) rfl rfl⟩ rfl (fun hHeld => ?_)
        clear hK K
        repeat (first | ((with_reducible refine gate_p ?_); refine rp rfl rfl ?_) | ((with_reducible refine gate_t ?_); refine rt rfl rfl hHeld ?_))
        refine run_done ?_
        clear hHeld
        go_wp2
        refine bodyPost_ret (results_cell_tmp_row rfl _ _ g_r 35 #[.int .i64 f.1, .int .i64 f.2] (0, 0) _ rfl (HS.out.at (i := 3) rfl) Try.underlying35 rfl (by kernel_rfl)) rfl ?_
        rcases HENDF.out with ⟨e1, e2⟩ | ⟨z, e1, e2, e3⟩
        · rw [e1]; exact ⟨f.1, f.2, fun c hc => by (cases hc), rfl, HS.out.below⟩
        · cases e2
      | false =>
        go_wp2
        replace HS := sD HS
        refine ps (.p 0 (.p 1 (.p 2 (.p 6 (.p 7 (.p 8 (.t 3 (.p 4 (.t 5 (.t 9 (.p 10 (.e 11 (.p 12 .done))))))))))))) (fun w' => w'.cell? ⟨g1, 2, none⟩ = some (.slice (some ⟨v1, 0, none⟩) N N) ∧ w'.cell? ⟨v1, 0, none⟩ = some (.int .i64 f.1) ∧ w'.cell? ⟨v1, 1, none⟩ = some (.int .i64 f.2) ∧ w'.cell? ⟨g1, 3, none⟩ = some (.bool false)) [] ⟨HS.out.c 1 2 (v := .slice (some ⟨v1, 0, none⟩) N N) rfl rfl, (tv_eps (HS.out.at (i := 2) rfl) HFE.out).1, (tv_eps (HS.out.at (i := 2) rfl) HFE.out).2, HS.out.c 1 3 (v := .bool false) rfl rfl⟩ (fun hHeld => ?_)
        repeat (first | ((with_reducible refine gate_p ?_); refine rp rfl rfl ?_) | ((with_reducible refine gate_t ?_); refine rt rfl rfl hHeld ?_))
        refine run_e rfl (fun K hK => ?_)
        refine st1 HS 3 0 #[.int .i64 f.1, .int .i64 f.2] rfl rfl rfl rfl rfl ?_
        clear HS
        intro w1 HS
        refine goE hK ⟨HS.out.c 1 2 (v := .slice (some ⟨v1, 0, none⟩) N N) rfl rfl, (tv_eps (HS.out.at (i := 2) rfl) HFE.out).1, (tv_eps (HS.out.at (i := 2) rfl) HFE.out).2, HS.out.c 1 3 (v := .bool false) rfl rfl⟩ rfl (fun hHeld => ?_)
        clear hK K
        repeat (first | ((with_reducible refine gate_p ?_); refine rp rfl rfl ?_) | ((with_reducible refine gate_t ?_); refine rt rfl rfl hHeld ?_))
        refine run_done ?_
        clear hHeld
        go_wp2
        refine bodyPost_ret (results_cell_tmp_row rfl _ _ g_r 35 #[.int .i64 f.1, .int .i64 f.2] (0, 0) _ rfl (HS.out.at (i := 3) rfl) Try.underlying35 rfl (by kernel_rfl)) rfl ?_
        rcases HENDF.out with ⟨e1, e2⟩ | ⟨z, e1, e2, e3⟩
        · cases e2
        · rw [e1, ← e3]; exact ⟨f.1, f.2, fun c hc => (Option.some.inj hc).symm, rfl, HS.out.below⟩
end Go.Proofs.Ytaheikponfmdiaa.H


