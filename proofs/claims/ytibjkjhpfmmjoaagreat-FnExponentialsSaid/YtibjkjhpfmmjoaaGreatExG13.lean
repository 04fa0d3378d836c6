/- Plain facts and contracts of functions that the law's walk uses. Conditions: those that stand in each statement. -/
import Derived.Test.YtibjkjhpfmmjoaaGreatExG12
import Derived.Test.YtibjkjhpfmmjoaaGreatExG5
import Derived.Test.YtibjkjhpfmmjoaaGreatExG11
import Derived.Test.YtibjkjhpfmmjoaaGreatExG6
import Derived.Deep.Cut
import Derived.Test.YtibjkjhpfmmjoaaGreatExG2
namespace Go.Proofs.YtibjkjhpfmmjoaaGreat.H
open Go.RowKit Go.Proofs.YtibjkjhpfmmjoaaGreatW.PrintWords Go.Proofs.YtibjkjhpfmmjoaaGreatW.PrintLast Go.Proofs.YtibjkjhpfmmjoaaGreatW.PrintMore Go.Proofs.YtibjkjhpfmmjoaaGreat.M
set_option linter.unusedVariables false
set_option linter.unusedSimpArgs false
set_option maxRecDepth 100000
def GotS (d n : Int) (p : Ts) (c : Int) (w : World) (e : Ending) (w' : World) : Prop := ∃ B b, e = .returned (.tuple #[.agg #[.int .i64 d, .int .i64 n, .slice B p.length b], .int .i64 c]) ∧ Sep w w' [rowT B b p]
theorem got {P : Program} {f : FuncId} {vs : Array Value} {w : World} {r : Rs} {d n : Int} {p : Ts} {c : Int} (h : Calls P f vs w (RetS w r)) (e : r = (d, n, p, c)) : Calls P f vs w (GotS d n p c w) := by subst e; exact h
theorem lawBig (A : Option Addr) (c n : Nat) (w : World) : Calls Tryz.prog 5 #[.slice A n c] w fun e w' => e = .returned (.bool (decide (4096 < n))) ∧ Below w.heap.size w w' := by
  have HS := Aside0.mk (Sep.refl w)
  have hd : (decide ((4096 : Int) < (n : Int))) = decide (4096 < n) := decide_eq_decide.2 (by omega)
  have HD := Aside0.mk hd
  clear hd
  go_enter Tryz.func5, Tryz.ntmps5
  go_wp2
  go_ret
  exact ⟨ret_bool (by first | exact HD.out | simp), HS.out.below⟩
theorem Mod.tmg {w W : World} {S : Nat → Prop} {L : List As} (h : Mod w W S L) (i : Nat) {ad : Addr} {c : Nat} {u : Ts} (hi : L[i]? = some (rowT (some ad) c u)) {j : Nat} {t : Tm} (hj : u[j]? = some t) :
    W.cell? (ad.add (j * 3)) = some (.string t.1) ∧ W.cell? ⟨(ad.add (j * 3)).block, (ad.add (j * 3)).off + 1, none⟩ = some (.int .i64 t.2.1) ∧ W.cell? ⟨(ad.add (j * 3)).block, (ad.add (j * 3)).off + 2, none⟩ = some (.int .i64 t.2.2) := by
  obtain ⟨h1, h2⟩ := List.getElem?_eq_some_iff.1 hj
  obtain ⟨ad', e, h0, h3, h4⟩ := tm_at (h.reads i hi) j h1
  cases e
  rw [List.getD_eq_getElem?_getD, hj] at h0 h3 h4
  exact ⟨h0, h3, h4⟩
end Go.Proofs.YtibjkjhpfmmjoaaGreat.H



namespace Go.Proofs.YtibjkjhpfmmjoaaGreat.M
theorem filter_next {l : Ts} {k : Nat} (hk : k < l.length) (p : Tm → Bool) : (l.take (k + 1)).filter p = (l.take k).filter p ++ (if p (l.getD k H.zT) = true then [l.getD k H.zT] else []) := by
  rw [List.take_add_one, List.getElem?_eq_getElem hk, List.filter_append, H.getD_lt l H.zT k hk]
  congr 1
  show List.filter p [l[k]] = _
  by_cases h : p l[k] = true
  · simp [h]
  · simp [h]
end Go.Proofs.YtibjkjhpfmmjoaaGreat.M
namespace Go.Proofs.YtibjkjhpfmmjoaaGreat.H
open Go.RowKit Go.Proofs.YtibjkjhpfmmjoaaGreatW.PrintWords Go.Proofs.YtibjkjhpfmmjoaaGreatW.PrintLast Go.Proofs.YtibjkjhpfmmjoaaGreatW.PrintMore Go.Proofs.YtibjkjhpfmmjoaaGreat.M
attribute [local go_sem] max2_int min2_int max_two min_two max_three min_three max_four min_four
set_option linter.unusedVariables false
set_option linter.unusedSimpArgs false
set_option maxRecDepth 100000
end Go.Proofs.YtibjkjhpfmmjoaaGreat.H


namespace Go.Proofs.YtibjkjhpfmmjoaaGreat.M
def lettered (t : Tm) : Bool := decide (t.1.size ≠ 0)
theorem put_lettered {m : Ts} {a : Fr} (h : a.1 ≠ 0) (hl : ∀ t ∈ m, t.1.size ≠ 0) : put m eps a = some ((eps, a) :: m) := by
  cases m with
  | nil => rw [put, if_neg h]
  | cons t r =>
    have h1 := hl t List.mem_cons_self
    have hb : bef t.1 eps = false := by
      unfold bef befL
      have : (bl t.1).length ≠ 0 := by rw [bl_len]; exact h1
      rw [if_neg (by rw [bl_empty]; exact this), bl_empty]
      exact decide_eq_false (by simp)
    rw [put, if_neg (by rw [hb]; decide), if_neg (fun e => h1 (by rw [e]; rfl)), if_neg h]
theorem lettered_sz {l : Ts} : ∀ t ∈ l.filter lettered, t.1.size ≠ 0 := fun _ ht => of_decide_eq_true (List.mem_filter.1 ht).2
theorem bnd_lettered {l : Ts} (h : bnd l = true) : bnd (l.filter lettered) = true := by
  obtain ⟨h1, h2⟩ := bnd_iff.1 h
  exact bnd_iff.2 ⟨Nat.le_trans (List.length_filter_le _ _) h1, fun _ ht => h2 _ (List.mem_filter.1 ht).1⟩
end Go.Proofs.YtibjkjhpfmmjoaaGreat.M
namespace Go.Proofs.YtibjkjhpfmmjoaaGreat.H
open Go.RowKit Go.Proofs.YtibjkjhpfmmjoaaGreatW.PrintWords Go.Proofs.YtibjkjhpfmmjoaaGreatW.PrintLast Go.Proofs.YtibjkjhpfmmjoaaGreatW.PrintMore Go.Proofs.YtibjkjhpfmmjoaaGreat.M
attribute [local go_sem] max2_int min2_int max_two min_two max_three min_three max_four min_four
set_option linter.unusedVariables false
set_option linter.unusedSimpArgs false
set_option maxRecDepth 100000
theorem empty_isEmpty : eps.toList.isEmpty = true := by
  first | rfl | decide | (simp [ByteArray.toList]; done) | (unfold ByteArray.toList ByteArray.toList.loop; rw [if_neg (by decide)]; rfl) | (unfold ByteArray.toList ByteArray.toList.loop; simp; intro h; exact absurd h (by decide))
theorem nonempty_isEmpty {s : ByteArray} (h : ¬ s.size = 0) : s.toList.isEmpty = false := by
  have h1 : (s.toList == eps.toList) = false := by rw [str_eq]; exact decide_eq_false (fun e => h (by rw [e]; rfl))
  have h2 := empty_isEmpty
  cases hl : s.toList with
  | nil =>
    rw [hl] at h1
    cases he : eps.toList with
    | nil => rw [he] at h1; cases h1
    | cons a r => rw [he] at h2; cases h2
  | cons a r => rfl
theorem specPutL (A : Option Addr) (c : Nat) (y : Ts) (u : Int) (w : World) (hr : KT.C w A y.length y) (hc : y.length ≤ c) (hb : bnd y = true) (hl : ∀ t ∈ y, t.1.size ≠ 0) (hu : u ≠ 0) (hu1 : -1000000000 ≤ u) (hu2 : u ≤ 1000000000) :
    Calls Tryz.prog 92 #[.slice A y.length c, .string eps, .agg #[.int .i64 u, .int .i64 1]] w fun e w' => ∃ B b, e = .returned (.tuple #[.slice B (((eps, ((u, 1) : Fr)) :: y) : Ts).length b, .bool true]) ∧ Sep w w' [rowT B b ((eps, ((u, 1) : Fr)) :: y)] := by
  have h := specPutW A c y eps u 1 w hr hc hb (fun _ ht e => absurd (by rw [e]; rfl) (hl _ ht)) (by decide) ⟨hu1, hu2, (by decide : (-1000000000 : Int) ≤ 1), (by decide : (1 : Int) ≤ 1000000000)⟩
  rw [put_lettered (a := (u, 1)) hu hl] at h
  exact h
set_option maxHeartbeats 16000000 in
theorem specWith (g : Nat) (A : Option Addr) (c m k : Nat) (h : Int) (u : Int) (w : World) (ho : (srcB g A m c k h).I w) (hcd : Code w g A m) (hk : k ≤ m) (hm : m ≤ 1048576) (hu : -1 ≤ u ∧ u ≤ 2) :
    Calls Tryz.prog 36 #[.pointer (some ⟨g, 0, none⟩), .int .i64 u] w fun e w' => ∃ (d' n' : Int) (B' : Option Addr) (b' : Nat) (l' : Ts) (k' : Nat) (h' : Int), e = .returned (.agg #[.int .i64 d', .int .i64 n', .slice B' l'.length b']) ∧ -1 ≤ d' ∧ d' ≤ 5 ∧ -1 ≤ n' ∧ n' ≤ 6 ∧ k' ≤ m ∧ okT l' ∧ Mod w w' (fun b => b = g) [srcB g A m c k' h', rowT B' b' l'] := by
  have HS := Aside0.mk (Mod.own1 ho)
  have HC := Aside0.mk hcd
  have HB := Aside0.mk (fun k h d n B b l W k1 k2 k3 k4 k5 hk h1 h2 h3 => specBad g A c m k h d n B b l W k1 k2 k3 k4 k5 hk hm h1 h2 h3)
  have HN := Aside0.mk (fun k h n W k1 k2 hk h1 => specNext g A c m k h n W k1 k2 hk hm h1)
  clear ho hcd
  go_enter Tryz.func36, Tryz.ntmps36
  go_wp2_with (first | ((with_reducible refine gate_dst (N := 4) rfl ?_); refine bxL 26 #[(.int .i64 0), (.int .i64 0), (.slice none 0 0)] HS ?_; clear HS; intro g_r w1 hg_r HS) | (go_at_call 96; refine (specDrawD g A c m k h _ (HS.out.at (i := 1) rfl) (HC.out.mod (HS.out.sel [0] (by decide)) (fun _ h => h)) hk hm).mono ?_; rintro e_ w1 ⟨d, n, B, b, l, k1, h1, rfl, hd0, hd1, hn0, hn1, hk1, hok, hs⟩; have n_ := Aside0.mk (Mod.step (A0 := [bx g 109 #[.slice A m c, .int .i64 (k : Int), .int .u64 h]]) (R := [bx g_r 26 #[(.int .i64 0), (.int .i64 0), (.slice none 0 0)]]) (HS.out.sel [1, 0] (by decide)) hs (fun k_ hk_ => ⟨_, List.mem_cons_self, hk_⟩)); clear HS hs; have HS := n_; clear n_; simp only [List.cons_append, List.nil_append] at HS) | ((with_reducible refine gate_dst (N := 5) rfl ?_); refine bxL 26 #[(.int .i64 0), (.int .i64 0), (.slice none 0 0)] HS ?_; clear HS; intro g_x w1 hg_x HS) | ((with_reducible refine gate_store (t := 26) (p := 5) rfl ?_); refine stL HS 0 0 #[.int .i64 (d : Int), .int .i64 (n : Int), .slice B l.length b] rfl rfl rfl rfl rfl ?_; clear HS; intro w1 HS; have f1_ := HS.out.c 0 0 (v := .int .i64 (d : Int)) rfl rfl; have f2_ := HS.out.c 0 1 (v := .int .i64 (n : Int)) rfl rfl; have f3_ := HS.out.c 0 2 (v := .slice B l.length b) rfl rfl) | (go_at_call 89; refine (specEmpty d n B l.length b _).mono ?_; rintro e_ w1 ⟨C, cc, rfl, hs⟩; replace HS := sN1 HS hs; clear hs f1_ f2_ f3_) | ((with_reducible refine gate_dst (N := 6) rfl ?_); refine bxL 26 #[(.int .i64 0), (.int .i64 0), (.slice none 0 0)] HS ?_; clear HS; intro g_q w1 hg_q HS) | ((with_reducible refine gate_store (t := 26) (p := 6) rfl ?_); refine stL HS 0 0 #[.int .i64 (d : Int), .int .i64 (n : Int), .slice C ([] : Ts).length cc] rfl rfl rfl rfl rfl ?_; clear HS; intro w1 HS))
  have hll := hok.2
  have HOK := Aside0.mk hok
  have HZ := Aside0.mk (fun j => bnd_get hok.1 j)
  have hl9 : l.length ≤ 9223372036854775807 := by omega
  go_loopw [7] (fun v w' => ∃ (i : Nat) (C : Option Addr) (cc : Nat) (y : Ts), i ≤ l.length ∧ v = .int .i64 (i : Int) ∧ Aside0 (y = (l.take i).filter lettered) ∧ Aside0 (Mod w w' (srcB g A m c k h).S [bx g_q 26 #[.int .i64 (d : Int), .int .i64 (n : Int), .slice C y.length cc], rowT C cc y, bx g_x 26 #[.int .i64 (d : Int), .int .i64 (n : Int), .slice B l.length b], srcB g A m c k1 h1, rowT B b l, bx g_r 26 #[(.int .i64 0), (.int .i64 0), (.slice none 0 0)]])) (fun v _ => l.length - (intOf v).toNat)
  case atStart => exact ⟨0, C, cc, [], by omega, rfl, ⟨rfl⟩, HS⟩
  case round =>
    clear HS
    obtain ⟨i, C, cc, y, hi, rfl, HY, HS⟩ := hrel
    by_cases hlt : i < l.length
    · have hzl : y.length ≤ 1048576 := by rw [HY.out]; exact Nat.le_trans (List.length_filter_le _ _) (by rw [List.length_take]; omega)
      have HNX := Aside0.mk (filter_next hlt lettered)
      obtain ⟨t, ht⟩ : ∃ t, l[i]? = some t := ⟨_, List.getElem?_eq_getElem hlt⟩
      have hgt : l.getD i zT = t := by rw [List.getD_eq_getElem?_getD, ht]; rfl
      rw [hgt] at HNX
      have hsz := HZ.out i
      rw [hgt] at hsz
      have HE := Aside0.mk ht
      clear ht hgt
      obtain ⟨ad, ea, h_⟩ := tm_at (HS.out.reads 4 rfl) i hlt
      clear h_
      cases ea
      have hi0 : (0 : Int) ≤ i := by omega
      have hi1 : (i : Int) < l.length := by omega
      by_cases hp : t.1.size = 0
      · have hte : t.1 = eps := bl_ext (List.eq_nil_of_length_eq_zero (by rw [bl_len]; exact hp))
        have hse : t.1.toList.isEmpty = true := by rw [hte]; exact empty_isEmpty
        have HP := Aside0.mk hp
        clear hp hte
        have f1_ := HS.out.c 2 2 (v := .slice (some ad) l.length b) rfl rfl
        have f2_ := (HS.out.tmg 4 rfl HE.out).1
        go_wp2
        go_roundw
        case rel => exact ⟨i + 1, C, cc, y, by omega, by go_num, ⟨by rw [HNX.out, if_neg (by unfold lettered; simp [HP.out]), List.append_nil, HY.out]⟩, HS⟩
        case measure => simp [intOf]; omega
      · have hse : t.1.toList.isEmpty = false := nonempty_isEmpty hp
        have HP := Aside0.mk hp
        clear hp
        have f1_ := HS.out.c 2 2 (v := .slice (some ad) l.length b) rfl rfl
        have f2_ := (HS.out.tmg 4 rfl HE.out).1
        go_wp2
        clear f1_ f2_
        replace HS := sD HS
        refine ps (.p 0 (.p 2 (.p 4 (.t 1 (.t 3 (.p 5 (.t 6 (.e 7 (.d 8 (.p 9 (.d 10 .done))))))))))) (fun w' => w'.cell? ⟨g_q, 2, none⟩ = some (.slice C y.length cc) ∧ w'.cell? ⟨g_x, 2, none⟩ = some (.slice (some ad) l.length b) ∧ w'.cell? (ad.add (i * 3)) = some (.string t.1) ∧ w'.cell? ⟨(ad.add (i * 3)).block, (ad.add (i * 3)).off + 1, none⟩ = some (.int .i64 t.2.1) ∧ w'.cell? ⟨(ad.add (i * 3)).block, (ad.add (i * 3)).off + 2, none⟩ = some (.int .i64 t.2.2)) [8, 10] ⟨HS.out.c 0 2 (v := .slice C y.length cc) rfl rfl, HS.out.c 2 2 (v := .slice (some ad) l.length b) rfl rfl, (HS.out.tmg 4 rfl HE.out).1, (HS.out.tmg 4 rfl HE.out).2.1, (HS.out.tmg 4 rfl HE.out).2.2⟩ (fun hHeld => ?_)
        repeat (first | ((with_reducible refine gate_p ?_); refine rp rfl rfl ?_) | ((with_reducible refine gate_t ?_); refine rt rfl rfl hHeld ?_))
        refine run_e rfl (fun K hK => ?_)
        refine stp_lit (KT) rfl 79 (by rfl) HS (xs := [t]) (inner := [.string t.1, .int .i64 t.2.1, .int .i64 t.2.2]) (by first | (go_simp; done) | (go_simp; rfl)) (fun W base ok => Reps.snoc (Reps.none _ _) (KT_M t W base ok) rfl) (by simp) ?_
        clear HS
        intro A_v c_v w1 HS
        refine ge hK ⟨HS.out.c 1 2 (v := .slice C y.length cc) rfl rfl, HS.out.c 3 2 (v := .slice (some ad) l.length b) rfl rfl, (HS.out.tmg 5 rfl HE.out).1, (HS.out.tmg 5 rfl HE.out).2.1, (HS.out.tmg 5 rfl HE.out).2.2⟩ (fun hHeld => ?_)
        clear hK K
        refine run_d rfl (fun K hK => ?_)
        refine stp_rows KT rfl (fun _ _ _ _ _ h => h) (by rfl) HS 2 rfl (.tmp 29) (.tmp 35) 24 (.agg #[(.string ⟨#[]⟩), (.int .i64 0), (.int .i64 0)]) 32 rfl Tryz.underlying24 infoTerm (by kernel_rfl) [t] rfl rfl (HS.out.reads 0 rfl) (by show (y.length + 1) * 32 ≤ _; omega) ?_
        clear HS
        intro A_y' c_y' y' w1 Ny' HS
        simp only [List.set_cons_zero, List.set_cons_succ] at HS
        refine gd hK ?_
        clear hK K
        repeat (first | ((with_reducible refine gate_p ?_); refine rp rfl rfl ?_) | ((with_reducible refine gate_t ?_); refine rt rfl rfl hHeld ?_))
        refine run_d rfl (fun K hK => ?_)
        refine st1 HS 1 2 #[.int .i64 (d : Int), .int .i64 (n : Int), (.slice A_y' y'.length c_y')] rfl rfl rfl rfl rfl ?_
        clear HS
        intro w1 HS
        refine goD hK rfl ?_
        clear hK K
        refine run_done ?_
        clear hHeld
        go_wp2
        replace HS : Aside0 (Mod _ _ _ [_, _, _, _, _, _]) := sX HS [1, 2, 3, 4, 5, 6]
        go_roundw
        case rel => exact ⟨i + 1, A_y', c_y', y', by omega, by go_num, ⟨by rw [Ny'.out, HNX.out, if_pos (by unfold lettered; simp [HP.out]), HY.out]⟩, HS⟩
        case measure => simp [intOf]; omega
    · obtain rfl : i = l.length := by omega
      rw [List.take_length] at HY
      obtain rfl := HY.out
      have hyl : (l.filter lettered).length ≤ 100000 := Nat.le_trans (List.length_filter_le _ _) hll
      have HYB := Aside0.mk (bnd_lettered HOK.out.1)
      have HLT := Aside0.mk (lettered_sz (l := l))
      generalize l.filter lettered = y at hyl HYB HLT HS
      have HOY := Aside0.mk (show okT y from ⟨HYB.out, by omega⟩)
      by_cases hu0 : u = 0
      · have hub : (u != 0) = false := by simpa using hu0
        clear hu0
        have f1_ := HS.out.c 2 2 (v := .slice B l.length b) rfl rfl
        go_wp2_with (first | (go_at_call 82; refine (HN.out k1 h1 16 _ (HS.out.at (i := 3) rfl) (HC.out.mod (HS.out.sel [3] (by decide)) (fun _ h => h)) hk1 (by omega)).mono ?_; rintro e_ w1 ⟨p, k2, h2, rfl, hk2, hr1, hr2, hs⟩; replace HS : Aside0 (Mod _ _ _ [_, _, _, _, _, _]) := sM1 HS 3 [0, 1, 2, 4, 5] rfl hs; clear hs f1_; clear hr1 hr2; refine Hid.out ?_))
        refine Lib.hid ?_
        by_cases hp0 : p = 0
        · have hpb : (p == 0) = true := by rw [hp0]; rfl
          clear hp0
          have f1_ := HS.out.c 3 0 (v := .int .i64 (d : Int)) rfl rfl
          have f2_ := HS.out.c 3 1 (v := .int .i64 (n : Int)) rfl rfl
          have f3_ := HS.out.c 3 2 (v := .slice B l.length b) rfl rfl
          go_wp2_with (first | ((with_reducible refine gate_store (t := 26) (p := 4) rfl ?_); refine stL HS 5 0 #[.int .i64 (d : Int), .int .i64 (n : Int), .slice B l.length b] rfl rfl rfl rfl rfl ?_; clear HS f1_ f2_ f3_; intro w1 HS))
          refine bodyPost_ret (results_cell_row rfl _ _ g_r 26 #[.int .i64 (d : Int), .int .i64 (n : Int), .slice B l.length b] (0, 0) _ rfl (HS.out.at (i := 5) rfl) Tryz.underlying26 rfl (by kernel_rfl)) rfl ?_
          exact ⟨d, n, B, b, l, k2, h2, rfl, by omega, by omega, by omega, by omega, hk2, HOK.out.ok, HS.out.sel [0, 4] (by decide)⟩
        · have hpb : (p == 0) = false := by simpa using hp0
          clear hp0
          have f1_ := HS.out.c 1 0 (v := .int .i64 (d : Int)) rfl rfl
          have f2_ := HS.out.c 1 1 (v := .int .i64 (n : Int)) rfl rfl
          have f3_ := HS.out.c 1 2 (v := .slice C y.length cc) rfl rfl
          go_wp2_with (first | (go_at_call 83; refine (HB.out k2 h2 d n C cc y _ (HS.out.at (i := 0) rfl) (HS.out.at (i := 2) rfl) (fun q h1 h2 => HS.out.disj2 (i := 2) (j := 0) rfl rfl (by decide) q h1 h2) (HC.out.apart HS.out (fun _ h => h) 2 rfl) (HC.out.mod (HS.out.sel [0] (by decide)) (fun _ h => h)) hk2 (by omega) (by omega) HOY.out).mono ?_; rintro e_ w1 ⟨d2, n2, B2, b2, l2, k3, h3, rfl, hd2, hd3, hn2, hn3, hk3, hok2, hs⟩; replace HS : Aside0 (Mod _ _ _ [_, _, _, _, _, _]) := sM2 HS 0 2 [1, 3, 4, 5] rfl rfl hs; clear hs f1_ f2_ f3_) | ((with_reducible refine gate_store (t := 26) (p := 4) rfl ?_); refine stL HS 5 0 #[.int .i64 d2, .int .i64 n2, .slice B2 l2.length b2] rfl rfl rfl rfl rfl ?_; clear HS; intro w1 HS))
          refine bodyPost_ret (results_cell_row rfl _ _ g_r 26 #[.int .i64 d2, .int .i64 n2, .slice B2 l2.length b2] (0, 0) _ rfl (HS.out.at (i := 5) rfl) Tryz.underlying26 rfl (by kernel_rfl)) rfl ?_
          exact ⟨d2, n2, B2, b2, l2, k3, h3, rfl, hd2, hd3, hn2, hn3, hk3, hok2, HS.out.sel [0, 1] (by decide)⟩
      · have hub : (u != 0) = true := by simpa using hu0
        have hokz : okT ((eps, ((u, 1) : Fr)) :: y) := ⟨bnd_iff.2 ⟨by show y.length + 1 ≤ _; omega, fun t ht => by rcases List.mem_cons.1 ht with rfl | ht; exact (by decide : (0 : Nat) ≤ 1048576); exact (bnd_iff.1 HYB.out).2 t ht⟩, by show y.length + 1 ≤ _; omega⟩
        have HPU := Aside0.mk (fun W k1 k2 => specPutL C cc y u W k1 k2 HYB.out HLT.out hu0 (by omega) (by omega))
        obtain ⟨yy, eyy⟩ : ∃ z : Ts, z = (eps, ((u, 1) : Fr)) :: y := ⟨_, rfl⟩
        rw [← eyy] at hokz HPU
        have HOZ := Aside0.mk hokz
        clear eyy hokz hu0
        have f1_ := HS.out.c 2 2 (v := .slice B l.length b) rfl rfl
        go_wp2
        clear f1_
        replace HS := sD HS
        refine ps (.p 0 (.p 2 (.t 1 (.e 3 (.d 4 (.p 5 (.p 6 (.p 7 (.p 8 (.p 9 .done)))))))))) (fun w' => w'.cell? ⟨g_q, 2, none⟩ = some (.slice C y.length cc)) [4] (HS.out.c 0 2 (v := .slice C y.length cc) rfl rfl) (fun hHeld => ?_)
        repeat (first | ((with_reducible refine gate_p ?_); refine rp rfl rfl ?_) | ((with_reducible refine gate_t ?_); refine rt rfl rfl hHeld ?_))
        refine run_e rfl (fun K hK => ?_)
        refine gc Tryz.func49 (specOne u _) rfl rfl ?_
        rintro e_ w1 ⟨rfl, hb⟩
        refine ⟨_, rfl, ?_⟩
        replace HS := sB HS hb
        clear hb
        refine ge hK (HS.out.c 0 2 (v := .slice C y.length cc) rfl rfl) (fun hHeld => ?_)
        clear hK K
        refine run_d rfl (fun K hK => ?_)
        refine gc Tryz.func92 (HPU.out _ (HS.out.reads 1 rfl) (HS.out.cap 1 rfl)) rfl rfl ?_
        rintro e_ w1 ⟨D, e1, rfl, hs⟩
        refine ⟨_, rfl, ?_⟩
        replace HS := sN1 HS hs
        clear hs
        refine gd hK ?_
        clear hK K
        repeat (first | ((with_reducible refine gate_p ?_); refine rp rfl rfl ?_) | ((with_reducible refine gate_t ?_); refine rt rfl rfl hHeld ?_))
        refine run_done ?_
        clear hHeld
        go_wp2_with (first | ((with_reducible refine gate_store (t := 24) (p := 49) rfl ?_); refine stL HS 1 2 #[.int .i64 (d : Int), .int .i64 (n : Int), (.slice D yy.length e1)] rfl rfl rfl rfl rfl ?_; clear HS; intro w1 HS) | (go_at_call 82; refine (HN.out k1 h1 16 _ (HS.out.at (i := 4) rfl) (HC.out.mod (HS.out.sel [3] (by decide)) (fun _ h => h)) hk1 (by omega)).mono ?_; rintro e_ w1 ⟨p, k2, h2, rfl, hk2, hr1, hr2, hs⟩; replace HS : Aside0 (Mod _ _ _ [_, _, _, _, _, _, _]) := sM1 HS 4 [0, 1, 2, 3, 5, 6] rfl hs; clear hs; clear hr1 hr2; refine Hid.out ?_))
        refine Lib.hid ?_
        by_cases hp0 : p = 0
        · have hpb : (p == 0) = true := by rw [hp0]; rfl
          clear hp0
          have f1_ := HS.out.c 4 0 (v := .int .i64 (d : Int)) rfl rfl
          have f2_ := HS.out.c 4 1 (v := .int .i64 (n : Int)) rfl rfl
          have f3_ := HS.out.c 4 2 (v := .slice B l.length b) rfl rfl
          go_wp2_with (first | ((with_reducible refine gate_store (t := 26) (p := 4) rfl ?_); refine stL HS 6 0 #[.int .i64 (d : Int), .int .i64 (n : Int), .slice B l.length b] rfl rfl rfl rfl rfl ?_; clear HS f1_ f2_ f3_; intro w1 HS))
          refine bodyPost_ret (results_cell_row rfl _ _ g_r 26 #[.int .i64 (d : Int), .int .i64 (n : Int), .slice B l.length b] (0, 0) _ rfl (HS.out.at (i := 6) rfl) Tryz.underlying26 rfl (by kernel_rfl)) rfl ?_
          exact ⟨d, n, B, b, l, k2, h2, rfl, by omega, by omega, by omega, by omega, hk2, HOK.out.ok, HS.out.sel [0, 5] (by decide)⟩
        · have hpb : (p == 0) = false := by simpa using hp0
          clear hp0
          have f1_ := HS.out.c 2 0 (v := .int .i64 (d : Int)) rfl rfl
          have f2_ := HS.out.c 2 1 (v := .int .i64 (n : Int)) rfl rfl
          have f3_ := HS.out.c 2 2 (v := (.slice D yy.length e1)) rfl rfl
          go_wp2_with (first | (go_at_call 83; refine (HB.out k2 h2 d n D e1 yy _ (HS.out.at (i := 0) rfl) (HS.out.at (i := 1) rfl) (fun q h1 h2 => HS.out.disj2 (i := 1) (j := 0) rfl rfl (by decide) q h1 h2) (HC.out.apart HS.out (fun _ h => h) 1 rfl) (HC.out.mod (HS.out.sel [0] (by decide)) (fun _ h => h)) hk2 (by omega) (by omega) HOZ.out).mono ?_; rintro e_ w1 ⟨d2, n2, B2, b2, l2, k3, h3, rfl, hd2, hd3, hn2, hn3, hk3, hok2, hs⟩; replace HS : Aside0 (Mod _ _ _ [_, _, _, _, _, _, _]) := sM2 HS 0 1 [2, 3, 4, 5, 6] rfl rfl hs; clear hs f1_ f2_ f3_) | ((with_reducible refine gate_store (t := 26) (p := 4) rfl ?_); refine stL HS 6 0 #[.int .i64 d2, .int .i64 n2, .slice B2 l2.length b2] rfl rfl rfl rfl rfl ?_; clear HS; intro w1 HS))
          refine bodyPost_ret (results_cell_row rfl _ _ g_r 26 #[.int .i64 d2, .int .i64 n2, .slice B2 l2.length b2] (0, 0) _ rfl (HS.out.at (i := 6) rfl) Tryz.underlying26 rfl (by kernel_rfl)) rfl ?_
          exact ⟨d2, n2, B2, b2, l2, k3, h3, rfl, hd2, hd3, hn2, hn3, hk3, hok2, HS.out.sel [0, 1] (by decide)⟩
set_option maxHeartbeats 8000000 in
theorem specDrawExponentialOf (A : Option Addr) (c : Nat) (xs : List Int) (w : World) (hx : Bytes w A xs) : Calls Tryz.prog 6 #[.slice A xs.length c] w (RetOne w) := by
  have HX := Aside0.mk hx
  have hl := hx.l
  have HW := Aside0.mk (fun g k h u W k1 k2 hk hu => specWith g A c xs.length k h u W k1 k2 hk hl hu)
  have HS := Aside0.mk (Sep.refl w)
  clear hx
  go_enter Tryz.func6, Tryz.ntmps6
  go_wp2_with (first | ((with_reducible refine gate_dst (N := 2) rfl ?_); refine bxL 26 #[(.int .i64 0), (.int .i64 0), (.slice none 0 0)] HS ?_; clear HS; intro g_r w1 hg_r HS) | (go_at_call 37; refine (specFrom A c xs _ (HS.out.oldC HX.out.r) HX.out.l).mono ?_; rintro e_ w1 ⟨g, h, rfl, hs⟩; replace HS := sN1 HS hs; clear hs) | (go_at_call 36; refine (HW.out g 0 h 0 _ (HS.out.at (i := 0) rfl) (HX.out.code HS.out (i := 0) rfl) (Nat.zero_le _) (by omega)).mono ?_; rintro e_ w1 ⟨d, n, B, b, l, k1, h1, rfl, hd0, hd1, hn0, hn1, hk1, hok, hs⟩; have n_ := Aside0.mk (Mod.step (A0 := [srcB g A xs.length c 0 h]) (R := [bx g_r 26 #[(.int .i64 0), (.int .i64 0), (.slice none 0 0)]]) (HS.out.sel [0, 1] (by decide)) hs (fun k_ hk_ => ⟨_, List.mem_cons_self, hk_⟩)); clear HS hs; have HS := n_; clear n_; simp only [List.cons_append, List.nil_append] at HS) | ((with_reducible refine gate_store (t := 26) (p := 2) rfl ?_); refine stL HS 2 0 #[.int .i64 d, .int .i64 n, .slice B l.length b] rfl rfl rfl rfl rfl ?_; clear HS; intro w1 HS))
  refine bodyPost_ret (results_cell_row rfl _ _ g_r 26 #[.int .i64 d, .int .i64 n, .slice B l.length b] (0, 0) _ rfl (HS.out.at (i := 2) rfl) Tryz.underlying26 rfl (by kernel_rfl)) rfl ?_
  exact ⟨d, n, B, b, l, rfl, ⟨hd0, hd1, hn0, hn1⟩, hok, HS.out.sel [1] (by decide)⟩
theorem specDrawLogarithmOf (A : Option Addr) (c : Nat) (xs : List Int) (w : World) (hx : Bytes w A xs) : Calls Tryz.prog 10 #[.slice A xs.length c] w (RetOne w) := by
  have HX := Aside0.mk hx
  have hl := hx.l
  have HW := Aside0.mk (fun g k h u W k1 k2 hk hu => specWith g A c xs.length k h u W k1 k2 hk hl hu)
  have HS := Aside0.mk (Sep.refl w)
  clear hx
  go_enter Tryz.func10, Tryz.ntmps10
  go_wp2_with (first | ((with_reducible refine gate_dst (N := 2) rfl ?_); refine bxL 26 #[(.int .i64 0), (.int .i64 0), (.slice none 0 0)] HS ?_; clear HS; intro g_r w1 hg_r HS) | (go_at_call 37; refine (specFrom A c xs _ (HS.out.oldC HX.out.r) HX.out.l).mono ?_; rintro e_ w1 ⟨g, h, rfl, hs⟩; replace HS := sN1 HS hs; clear hs) | (go_at_call 36; refine (HW.out g 0 h 1 _ (HS.out.at (i := 0) rfl) (HX.out.code HS.out (i := 0) rfl) (Nat.zero_le _) (by omega)).mono ?_; rintro e_ w1 ⟨d, n, B, b, l, k1, h1, rfl, hd0, hd1, hn0, hn1, hk1, hok, hs⟩; have n_ := Aside0.mk (Mod.step (A0 := [srcB g A xs.length c 0 h]) (R := [bx g_r 26 #[(.int .i64 0), (.int .i64 0), (.slice none 0 0)]]) (HS.out.sel [0, 1] (by decide)) hs (fun k_ hk_ => ⟨_, List.mem_cons_self, hk_⟩)); clear HS hs; have HS := n_; clear n_; simp only [List.cons_append, List.nil_append] at HS) | ((with_reducible refine gate_store (t := 26) (p := 2) rfl ?_); refine stL HS 2 0 #[.int .i64 d, .int .i64 n, .slice B l.length b] rfl rfl rfl rfl rfl ?_; clear HS; intro w1 HS))
  refine bodyPost_ret (results_cell_row rfl _ _ g_r 26 #[.int .i64 d, .int .i64 n, .slice B l.length b] (0, 0) _ rfl (HS.out.at (i := 2) rfl) Tryz.underlying26 rfl (by kernel_rfl)) rfl ?_
  exact ⟨d, n, B, b, l, rfl, ⟨hd0, hd1, hn0, hn1⟩, hok, HS.out.sel [1] (by decide)⟩
set_option maxHeartbeats 8000000 in
theorem specDrawInverseSeries (A : Option Addr) (c : Nat) (xs : List Int) (w : World) (hx : Bytes w A xs) : Calls Tryz.prog 13 #[.slice A xs.length c] w (RetOne w) := by
  have HX := Aside0.mk hx
  have hl := hx.l
  have HW := Aside0.mk (fun g k h u W k1 k2 hk hu => specWith g A c xs.length k h u W k1 k2 hk hl hu)
  have HP := Aside0.mk (fun g k h B b W k1 k2 hk k3 k4 => specPick g A c xs.length k h B b [1, 1, 2, -1, 0] W k1 k2 hk hl k3 k4 (by decide) (by decide))
  have HS := Aside0.mk (Sep.refl w)
  clear hx
  go_enter Tryz.func13, Tryz.ntmps13
  go_wp2_with (first | ((with_reducible refine gate_dst (N := 2) rfl ?_); refine bxL 26 #[(.int .i64 0), (.int .i64 0), (.slice none 0 0)] HS ?_; clear HS; intro g_r w1 hg_r HS) | (go_at_call 37; refine (specFrom A c xs _ (HS.out.oldC HX.out.r) HX.out.l).mono ?_; rintro e_ w1 ⟨g, h, rfl, hs⟩; replace HS := sN1 HS hs; clear hs) | ((with_reducible refine gate_dst (N := 8) rfl ?_); refine wpList_stp (fun K hK => ?_); refine stp_lit (Kd.int .i64) rfl 2 (by rfl) HS (xs := [1, 1, 2, -1, 0]) (inner := [.int .i64 1, .int .i64 1, .int .i64 2, .int .i64 (-1), .int .i64 0]) (by first | (go_simp; done) | (go_simp; rfl)) (fun W base ok => reps_ints W base ok _) (by simp) ?_; clear HS; intro A_p c_p w1 HS; refine hK _ _ ?_; clear hK K) | (go_at_call 51; refine (HP.out g 0 h A_p c_p _ (HS.out.at (i := 1) rfl) (HX.out.code HS.out (i := 1) rfl) (Nat.zero_le _) (HS.out.at (i := 0) rfl) (fun q h1 h2 => HS.out.disj2 (i := 0) (j := 1) rfl rfl (by decide) q h1 h2)).mono ?_; rintro e_ w1 ⟨u, k2, h2, rfl, hk2, hr, hs⟩; replace HS : Aside0 (Mod _ _ _ [_, _, _]) := sM1 HS 1 [0, 2] rfl hs; clear hs; obtain ⟨hu1, hu2⟩ : -1 ≤ u ∧ u ≤ 2 := (by simp only [List.mem_cons, List.not_mem_nil, or_false] at hr; omega); clear hr) | (go_at_call 36; refine (HW.out g k2 h2 u _ (HS.out.at (i := 0) rfl) (HX.out.code HS.out (i := 0) rfl) hk2 (by omega)).mono ?_; rintro e_ w1 ⟨d, n, B, b, l, k1, h1, rfl, hd0, hd1, hn0, hn1, hk1, hok, hs⟩; have n_ := Aside0.mk (Mod.step (A0 := [srcB g A xs.length c k2 h2]) (R := [rw' (Kd.int .i64) rfl 2 (.slice A_p ([1, 1, 2, -1, 0]).length c_p) ([1, 1, 2, -1, 0]), bx g_r 26 #[(.int .i64 0), (.int .i64 0), (.slice none 0 0)]]) (HS.out.sel [0, 1, 2] (by decide)) hs (fun k_ hk_ => ⟨_, List.mem_cons_self, hk_⟩)); clear HS hs; have HS := n_; clear n_; simp only [List.cons_append, List.nil_append] at HS) | ((with_reducible refine gate_store (t := 26) (p := 2) rfl ?_); refine stL HS 3 0 #[.int .i64 d, .int .i64 n, .slice B l.length b] rfl rfl rfl rfl rfl ?_; clear HS; intro w1 HS))
  refine bodyPost_ret (results_cell_row rfl _ _ g_r 26 #[.int .i64 d, .int .i64 n, .slice B l.length b] (0, 0) _ rfl (HS.out.at (i := 3) rfl) Tryz.underlying26 rfl (by kernel_rfl)) rfl ?_
  exact ⟨d, n, B, b, l, rfl, ⟨hd0, hd1, hn0, hn1⟩, hok, HS.out.sel [1] (by decide)⟩
end Go.Proofs.YtibjkjhpfmmjoaaGreat.H



namespace Go.Proofs.YtibjkjhpfmmjoaaGreat.H
open Go.RowKit Go.Proofs.YtibjkjhpfmmjoaaGreatW.PrintWords Go.Proofs.YtibjkjhpfmmjoaaGreatW.PrintLast Go.Proofs.YtibjkjhpfmmjoaaGreatW.PrintMore Go.Proofs.YtibjkjhpfmmjoaaGreat.M
set_option linter.unusedVariables false
set_option linter.unusedSimpArgs false
set_option maxRecDepth 100000
set_option maxHeartbeats 64000000 in
theorem lawFnExponentials (A : Option Addr) (c : Nat) (xs : List Int) (w : World) (hr : (Kd.int .u8).C w A xs.length xs) (hxb : ∀ x ∈ xs, 0 ≤ x ∧ x < 256) :
    Calls Tryz.prog 3 #[.slice A xs.length c] w fun e w' => e = .returned (.bool true) ∧ Below w.heap.size w w' := by
  have HS := Aside0.mk (Sep.refl w)
  have HG := Aside0.mk (fun X => lawBig A c xs.length X)
  by_cases hbig : 4096 < xs.length
  · rw [decide_eq_true hbig] at HG
    clear hr hxb
    go_enter Tryz.func3, Tryz.ntmps3
    go_wp2_with (first | (go_at_call 5; refine (HG.out _).mono ?_; rintro e_ w1 ⟨rfl, hb⟩; replace HS := sB HS hb; clear hb))
    go_ret
    exact ⟨rfl, HS.out.below⟩
  · rw [decide_eq_false hbig] at HG
    have HX := Aside0.mk (Bytes.mk hr hxb (by omega))
    clear hr hxb hbig
    go_enter Tryz.func3, Tryz.ntmps3
    go_upto_region 4 with (first | (go_at_call 5; refine (HG.out _).mono ?_; rintro e_ w1 ⟨rfl, hb⟩; replace HS := sB HS hb; clear hb) | (go_at_call 6; refine (specDrawExponentialOf A c xs _ (HX.out.old HS.out)).mono ?_; rintro e_ w1 ⟨dx, nx, Bx, mx, lx, rfl, hbx, hokx, hs⟩; replace HS := sN1 HS hs; clear hs) | ((with_reducible refine gate_dst (N := 3) rfl ?_); refine bxL 26 #[(.int .i64 0), (.int .i64 0), (.slice none 0 0)] HS ?_; clear HS; intro g_x w1 hg_x HS) | ((with_reducible refine gate_store (t := 26) (p := 3) rfl ?_); refine stL HS 0 0 #[.int .i64 dx, .int .i64 nx, .slice Bx lx.length mx] rfl rfl rfl rfl rfl ?_; clear HS; intro w1 HS))
    obtain ⟨ed, en, el, ec, ee⟩ : ∃ (a b : Int) (l : Ts) (c : Int), expR dx nx lx = (a, b, l, c) := ⟨_, _, _, _, rfl⟩
    have HE := Aside0.mk ee
    have HBE := Aside0.mk (expR_bnd ee)
    have hec : (ec != ec) = false := by simp
    have HBSx := Aside0.mk hokx.1
    clear ee
    have f1_ := HS.out.c 0 0 (v := .int .i64 dx) rfl rfl
    have f2_ := HS.out.c 0 1 (v := .int .i64 nx) rfl rfl
    have f3_ := HS.out.c 0 2 (v := .slice Bx lx.length mx) rfl rfl
    go_upto_region 9 with (first | (go_at_call 7; refine (got (implExponentialOf dx nx Bx mx lx _ (HS.out.reads 1 rfl) (HS.out.cap 1 rfl) HBSx.out) HE.out).mono ?_; rintro e_ w1 ⟨C1, e1, rfl, hs⟩; replace HS := sN1 HS hs; clear hs f1_ f2_ f3_) | ((with_reducible refine gate_dst (N := 4) rfl ?_); refine bxL 26 #[(.int .i64 0), (.int .i64 0), (.slice none 0 0)] HS ?_; clear HS; intro g_x1 w1 hg_x1 HS) | ((with_reducible refine gate_store (t := 26) (p := 4) rfl ?_); refine stL HS 0 0 #[.int .i64 ed, .int .i64 en, .slice C1 el.length e1] rfl rfl rfl rfl rfl ?_; clear HS; intro w1 HS; have f1_ := HS.out.c 2 0 (v := .int .i64 dx) rfl rfl; have f2_ := HS.out.c 2 1 (v := .int .i64 nx) rfl rfl; have f3_ := HS.out.c 2 2 (v := .slice Bx lx.length mx) rfl rfl) | (go_at_call 8; refine (got (specExponentialOf dx nx Bx mx lx _ (HS.out.reads 3 rfl) (HS.out.cap 3 rfl) HBSx.out) HE.out).mono ?_; rintro e_ w1 ⟨C2, e2, rfl, hs⟩; replace HS := sN1 HS hs; clear hs f1_ f2_ f3_) | ((with_reducible refine gate_dst (N := 6) rfl ?_); refine bxL 26 #[(.int .i64 0), (.int .i64 0), (.slice none 0 0)] HS ?_; clear HS; intro g_x2 w1 hg_x2 HS) | ((with_reducible refine gate_store (t := 26) (p := 6) rfl ?_); refine stL HS 0 0 #[.int .i64 ed, .int .i64 en, .slice C2 el.length e2] rfl rfl rfl rfl rfl ?_; clear HS; intro w1 HS; have f1_ := HS.out.c 2 0 (v := .int .i64 ed) rfl rfl; have f2_ := HS.out.c 2 1 (v := .int .i64 en) rfl rfl; have f3_ := HS.out.c 2 2 (v := .slice C1 el.length e1) rfl rfl; have f4_ := HS.out.c 0 0 (v := .int .i64 ed) rfl rfl; have f5_ := HS.out.c 0 1 (v := .int .i64 en) rfl rfl; have f6_ := HS.out.c 0 2 (v := .slice C2 el.length e2) rfl rfl) | (go_at_call 9; refine (lawSeries9 ed en C1 C2 e1 e2 el _ (HS.out.reads 3 rfl) (HS.out.reads 1 rfl) (bnd_iff.1 HBE.out).1).mono ?_; rintro e_ w1 ⟨rfl, hb⟩; replace HS := sB HS hb; clear hb f1_ f2_ f3_ f4_ f5_ f6_) | (go_at_call 10; refine (specDrawLogarithmOf A c xs _ (HX.out.old HS.out)).mono ?_; rintro e_ w1 ⟨dv, nv, Bv, mv, lv, rfl, hbv, hokv, hs⟩; replace HS := sN1 HS hs; clear hs) | ((with_reducible refine gate_dst (N := 8) rfl ?_); refine bxL 26 #[(.int .i64 0), (.int .i64 0), (.slice none 0 0)] HS ?_; clear HS; intro g_y w1 hg_y HS) | ((with_reducible refine gate_store (t := 26) (p := 8) rfl ?_); refine stL HS 0 0 #[.int .i64 dv, .int .i64 nv, .slice Bv lv.length mv] rfl rfl rfl rfl rfl ?_; clear HS; intro w1 HS))
    obtain ⟨gd, gn, gl, gc, eg⟩ : ∃ (a b : Int) (l : Ts) (c : Int), logR dv nv lv = (a, b, l, c) := ⟨_, _, _, _, rfl⟩
    have HG_ := Aside0.mk eg
    have HBG := Aside0.mk (logR_bnd eg)
    have hgc : (gc != gc) = false := by simp
    have HBSv := Aside0.mk hokv.1
    clear eg
    have f1_ := HS.out.c 0 0 (v := .int .i64 dv) rfl rfl
    have f2_ := HS.out.c 0 1 (v := .int .i64 nv) rfl rfl
    have f3_ := HS.out.c 0 2 (v := .slice Bv lv.length mv) rfl rfl
    go_upto_region 14 with (first | (go_at_call 11; refine (got (implLogarithmOf dv nv Bv mv lv _ (HS.out.reads 1 rfl) (HS.out.cap 1 rfl) HBSv.out) HG_.out).mono ?_; rintro e_ w1 ⟨C3, e3, rfl, hs⟩; replace HS := sN1 HS hs; clear hs f1_ f2_ f3_) | ((with_reducible refine gate_dst (N := 9) rfl ?_); refine bxL 26 #[(.int .i64 0), (.int .i64 0), (.slice none 0 0)] HS ?_; clear HS; intro g_y1 w1 hg_y1 HS) | ((with_reducible refine gate_store (t := 26) (p := 9) rfl ?_); refine stL HS 0 0 #[.int .i64 gd, .int .i64 gn, .slice C3 gl.length e3] rfl rfl rfl rfl rfl ?_; clear HS; intro w1 HS; have f1_ := HS.out.c 2 0 (v := .int .i64 dv) rfl rfl; have f2_ := HS.out.c 2 1 (v := .int .i64 nv) rfl rfl; have f3_ := HS.out.c 2 2 (v := .slice Bv lv.length mv) rfl rfl) | (go_at_call 12; refine (got (specLogarithmOf dv nv Bv mv lv _ (HS.out.reads 3 rfl) (HS.out.cap 3 rfl) HBSv.out) HG_.out).mono ?_; rintro e_ w1 ⟨C4, e4, rfl, hs⟩; replace HS := sN1 HS hs; clear hs f1_ f2_ f3_) | ((with_reducible refine gate_dst (N := 11) rfl ?_); refine bxL 26 #[(.int .i64 0), (.int .i64 0), (.slice none 0 0)] HS ?_; clear HS; intro g_y2 w1 hg_y2 HS) | ((with_reducible refine gate_store (t := 26) (p := 11) rfl ?_); refine stL HS 0 0 #[.int .i64 gd, .int .i64 gn, .slice C4 gl.length e4] rfl rfl rfl rfl rfl ?_; clear HS; intro w1 HS; have f1_ := HS.out.c 2 0 (v := .int .i64 gd) rfl rfl; have f2_ := HS.out.c 2 1 (v := .int .i64 gn) rfl rfl; have f3_ := HS.out.c 2 2 (v := .slice C3 gl.length e3) rfl rfl; have f4_ := HS.out.c 0 0 (v := .int .i64 gd) rfl rfl; have f5_ := HS.out.c 0 1 (v := .int .i64 gn) rfl rfl; have f6_ := HS.out.c 0 2 (v := .slice C4 gl.length e4) rfl rfl) | (go_at_call 9; refine (lawSeries9 gd gn C3 C4 e3 e4 gl _ (HS.out.reads 3 rfl) (HS.out.reads 1 rfl) (bnd_iff.1 HBG.out).1).mono ?_; rintro e_ w1 ⟨rfl, hb⟩; replace HS := sB HS hb; clear hb f1_ f2_ f3_ f4_ f5_ f6_) | (go_at_call 13; refine (specDrawInverseSeries A c xs _ (HX.out.old HS.out)).mono ?_; rintro e_ w1 ⟨dz, nz, Bz, mz, lz, rfl, hbz, hokz, hs⟩; replace HS := sN1 HS hs; clear hs) | ((with_reducible refine gate_dst (N := 13) rfl ?_); refine bxL 26 #[(.int .i64 0), (.int .i64 0), (.slice none 0 0)] HS ?_; clear HS; intro g_z w1 hg_z HS) | ((with_reducible refine gate_store (t := 26) (p := 13) rfl ?_); refine stL HS 0 0 #[.int .i64 dz, .int .i64 nz, .slice Bz lz.length mz] rfl rfl rfl rfl rfl ?_; clear HS; intro w1 HS))
    obtain ⟨jd, jn, jl, jc, ej⟩ : ∃ (a b : Int) (l : Ts) (c : Int), invR dz nz lz = (a, b, l, c) := ⟨_, _, _, _, rfl⟩
    have HJ := Aside0.mk ej
    have HBJ := Aside0.mk (invR_bnd ej)
    have hjc : (jc != jc) = false := by simp
    have HBSz := Aside0.mk hokz.1
    clear ej
    have f1_ := HS.out.c 0 0 (v := .int .i64 dz) rfl rfl
    have f2_ := HS.out.c 0 1 (v := .int .i64 nz) rfl rfl
    have f3_ := HS.out.c 0 2 (v := .slice Bz lz.length mz) rfl rfl
    go_upto_if 94 with (first | (go_at_call 14; refine (got (implInverseSeries dz nz Bz mz lz _ (HS.out.reads 1 rfl) (HS.out.cap 1 rfl) HBSz.out) HJ.out).mono ?_; rintro e_ w1 ⟨C5, e5, rfl, hs⟩; replace HS := sN1 HS hs; clear hs f1_ f2_ f3_) | ((with_reducible refine gate_dst (N := 14) rfl ?_); refine bxL 26 #[(.int .i64 0), (.int .i64 0), (.slice none 0 0)] HS ?_; clear HS; intro g_z1 w1 hg_z1 HS) | ((with_reducible refine gate_store (t := 26) (p := 14) rfl ?_); refine stL HS 0 0 #[.int .i64 jd, .int .i64 jn, .slice C5 jl.length e5] rfl rfl rfl rfl rfl ?_; clear HS; intro w1 HS; have f1_ := HS.out.c 2 0 (v := .int .i64 dz) rfl rfl; have f2_ := HS.out.c 2 1 (v := .int .i64 nz) rfl rfl; have f3_ := HS.out.c 2 2 (v := .slice Bz lz.length mz) rfl rfl) | (go_at_call 15; refine (got (specInverseSeries dz nz Bz mz lz _ (HS.out.reads 3 rfl) (HS.out.cap 3 rfl) HBSz.out) HJ.out).mono ?_; rintro e_ w1 ⟨C6, e6, rfl, hs⟩; replace HS := sN1 HS hs; clear hs f1_ f2_ f3_) | ((with_reducible refine gate_dst (N := 16) rfl ?_); refine bxL 26 #[(.int .i64 0), (.int .i64 0), (.slice none 0 0)] HS ?_; clear HS; intro g_z2 w1 hg_z2 HS) | ((with_reducible refine gate_store (t := 26) (p := 16) rfl ?_); refine stL HS 0 0 #[.int .i64 jd, .int .i64 jn, .slice C6 jl.length e6] rfl rfl rfl rfl rfl ?_; clear HS; intro w1 HS; have f1_ := HS.out.c 2 0 (v := .int .i64 jd) rfl rfl; have f2_ := HS.out.c 2 1 (v := .int .i64 jn) rfl rfl; have f3_ := HS.out.c 2 2 (v := .slice C5 jl.length e5) rfl rfl; have f4_ := HS.out.c 0 0 (v := .int .i64 jd) rfl rfl; have f5_ := HS.out.c 0 1 (v := .int .i64 jn) rfl rfl; have f6_ := HS.out.c 0 2 (v := .slice C6 jl.length e6) rfl rfl) | (go_at_call 9; refine (lawSeries9 jd jn C5 C6 e5 e6 jl _ (HS.out.reads 3 rfl) (HS.out.reads 1 rfl) (bnd_iff.1 HBJ.out).1).mono ?_; rintro e_ w1 ⟨rfl, hb⟩; replace HS := sB HS hb; clear hb f1_ f2_ f3_ f4_ f5_ f6_))
    go_cut [] from 18 (fun w' => Aside0 (Mod w w' No [bx g_z2 26 #[.int .i64 jd, .int .i64 jn, .slice C6 jl.length e6], rowT C6 e6 jl, bx g_z1 26 #[.int .i64 jd, .int .i64 jn, .slice C5 jl.length e5], rowT C5 e5 jl, bx g_z 26 #[.int .i64 dz, .int .i64 nz, .slice Bz lz.length mz], rowT Bz mz lz, bx g_y2 26 #[.int .i64 gd, .int .i64 gn, .slice C4 gl.length e4], rowT C4 e4 gl, bx g_y1 26 #[.int .i64 gd, .int .i64 gn, .slice C3 gl.length e3], rowT C3 e3 gl, bx g_y 26 #[.int .i64 dv, .int .i64 nv, .slice Bv lv.length mv], rowT Bv mv lv, bx g_x2 26 #[.int .i64 ed, .int .i64 en, .slice C2 el.length e2], rowT C2 e2 el, bx g_x1 26 #[.int .i64 ed, .int .i64 en, .slice C1 el.length e1], rowT C1 e1 el, bx g_x 26 #[.int .i64 dx, .int .i64 nx, .slice Bx lx.length mx], rowT Bx mx lx]))
    case first =>
      rcases exp_ways HE.out with ⟨hc0, hs, hq⟩ | ⟨hc0, q, hq0, hq⟩ | hc0
      · skip
        have hcb : (ec == 0) = true := by rw [hc0]; rfl
        have HQ := Aside0.mk hq
        have HLN := Aside0.mk (bnd_iff.1 (isS_bnd' hs)).1
        clear hc0 hq hs
        have f1_ := HS.out.c 14 0 (v := .int .i64 ed) rfl rfl
        have f2_ := HS.out.c 14 1 (v := .int .i64 en) rfl rfl
        have f3_ := HS.out.c 14 2 (v := .slice C1 el.length e1) rfl rfl
        go_wp2_with (first | (go_at_call 11; refine (got (implLogarithmOf ed en C1 e1 el _ (HS.out.reads 15 rfl) (HS.out.cap 15 rfl) HBE.out) HQ.out).mono ?_; rintro e_ w1 ⟨C7, e7, rfl, hs⟩; replace HS := sN1 HS hs; clear hs f1_ f2_ f3_) | ((with_reducible refine gate_dst (N := 18) rfl ?_); refine bxL 26 #[(.int .i64 0), (.int .i64 0), (.slice none 0 0)] HS ?_; clear HS; intro g_bk w1 hg_bk HS) | ((with_reducible refine gate_store (t := 26) (p := 18) rfl ?_); refine stL HS 0 0 #[.int .i64 dx, .int .i64 nx, .slice C7 lx.length e7] rfl rfl rfl rfl rfl ?_; clear HS; intro w1 HS; have f1_ := HS.out.c 0 0 (v := .int .i64 dx) rfl rfl; have f2_ := HS.out.c 0 1 (v := .int .i64 nx) rfl rfl; have f3_ := HS.out.c 0 2 (v := .slice C7 lx.length e7) rfl rfl; have f4_ := HS.out.c 18 0 (v := .int .i64 dx) rfl rfl; have f5_ := HS.out.c 18 1 (v := .int .i64 nx) rfl rfl; have f6_ := HS.out.c 18 2 (v := .slice Bx lx.length mx) rfl rfl) | (go_at_call 9; refine (lawSeries9 dx nx C7 Bx e7 mx lx _ (HS.out.reads 1 rfl) (HS.out.reads 19 rfl) HLN.out).mono ?_; rintro e_ w1 ⟨rfl, hb⟩; replace HS := sB HS hb; clear hb f1_ f2_ f3_ f4_ f5_ f6_))
        go_meet
        case rel => exact sX HS [2, 3, 4, 5, 6, 7, 8, 9, 10, 11, 12, 13, 14, 15, 16, 17, 18, 19]
      · skip
        have hcb : (ec == 0) = true := by rw [hc0]; rfl
        have HQ := Aside0.mk hq
        have hqb : (q == 0) = false := by simpa using hq0
        clear hc0 hq hq0
        have f1_ := HS.out.c 14 0 (v := .int .i64 ed) rfl rfl
        have f2_ := HS.out.c 14 1 (v := .int .i64 en) rfl rfl
        have f3_ := HS.out.c 14 2 (v := .slice C1 el.length e1) rfl rfl
        go_wp2_with (first | (go_at_call 11; refine (got (implLogarithmOf ed en C1 e1 el _ (HS.out.reads 15 rfl) (HS.out.cap 15 rfl) HBE.out) HQ.out).mono ?_; rintro e_ w1 ⟨C8, e8, rfl, hs⟩; replace HS := sN1 HS hs; clear hs f1_ f2_ f3_) | ((with_reducible refine gate_dst (N := 18) rfl ?_); refine bxL 26 #[(.int .i64 0), (.int .i64 0), (.slice none 0 0)] HS ?_; clear HS; intro g_bk w1 hg_bk HS) | ((with_reducible refine gate_store (t := 26) (p := 18) rfl ?_); refine stL HS 0 0 #[.int .i64 0, .int .i64 0, .slice C8 ([] : Ts).length e8] rfl rfl rfl rfl rfl ?_; clear HS; intro w1 HS))
        go_meet
        case rel => exact sX HS [2, 3, 4, 5, 6, 7, 8, 9, 10, 11, 12, 13, 14, 15, 16, 17, 18, 19]
      · skip
        have hcb : (ec == 0) = false := by simpa using hc0
        clear hc0
        go_wp2_with fail
        go_meet
        case rel => exact sX HS [0, 1, 2, 3, 4, 5, 6, 7, 8, 9, 10, 11, 12, 13, 14, 15, 16, 17]
    case rest =>
      have HS := hcut
      clear hcut
      go_upto_if 109 with fail
      go_cut [] from 20 (fun w' => Aside0 (Mod w w' No [bx g_z2 26 #[.int .i64 jd, .int .i64 jn, .slice C6 jl.length e6], rowT C6 e6 jl, bx g_z1 26 #[.int .i64 jd, .int .i64 jn, .slice C5 jl.length e5], rowT C5 e5 jl, bx g_z 26 #[.int .i64 dz, .int .i64 nz, .slice Bz lz.length mz], rowT Bz mz lz, bx g_y2 26 #[.int .i64 gd, .int .i64 gn, .slice C4 gl.length e4], rowT C4 e4 gl, bx g_y1 26 #[.int .i64 gd, .int .i64 gn, .slice C3 gl.length e3], rowT C3 e3 gl, bx g_y 26 #[.int .i64 dv, .int .i64 nv, .slice Bv lv.length mv], rowT Bv mv lv, bx g_x2 26 #[.int .i64 ed, .int .i64 en, .slice C2 el.length e2], rowT C2 e2 el, bx g_x1 26 #[.int .i64 ed, .int .i64 en, .slice C1 el.length e1], rowT C1 e1 el, bx g_x 26 #[.int .i64 dx, .int .i64 nx, .slice Bx lx.length mx], rowT Bx mx lx]))
      case first =>
        rcases log_ways HG_.out with ⟨hc0, hs, hq⟩ | ⟨hc0, q, hq0, hq⟩ | hc0
        · skip
          have hcb : (gc == 0) = true := by rw [hc0]; rfl
          have HQ := Aside0.mk hq
          have HLN := Aside0.mk (bnd_iff.1 (isS_bnd' hs)).1
          clear hc0 hq hs
          have f1_ := HS.out.c 8 0 (v := .int .i64 gd) rfl rfl
          have f2_ := HS.out.c 8 1 (v := .int .i64 gn) rfl rfl
          have f3_ := HS.out.c 8 2 (v := .slice C3 gl.length e3) rfl rfl
          go_wp2_with (first | (go_at_call 7; refine (got (implExponentialOf gd gn C3 e3 gl _ (HS.out.reads 9 rfl) (HS.out.cap 9 rfl) HBG.out) HQ.out).mono ?_; rintro e_ w1 ⟨C9, e9, rfl, hs⟩; replace HS := sN1 HS hs; clear hs f1_ f2_ f3_) | ((with_reducible refine gate_dst (N := 20) rfl ?_); refine bxL 26 #[(.int .i64 0), (.int .i64 0), (.slice none 0 0)] HS ?_; clear HS; intro g_bl w1 hg_bl HS) | ((with_reducible refine gate_store (t := 26) (p := 20) rfl ?_); refine stL HS 0 0 #[.int .i64 dv, .int .i64 nv, .slice C9 lv.length e9] rfl rfl rfl rfl rfl ?_; clear HS; intro w1 HS; have f1_ := HS.out.c 0 0 (v := .int .i64 dv) rfl rfl; have f2_ := HS.out.c 0 1 (v := .int .i64 nv) rfl rfl; have f3_ := HS.out.c 0 2 (v := .slice C9 lv.length e9) rfl rfl; have f4_ := HS.out.c 12 0 (v := .int .i64 dv) rfl rfl; have f5_ := HS.out.c 12 1 (v := .int .i64 nv) rfl rfl; have f6_ := HS.out.c 12 2 (v := .slice Bv lv.length mv) rfl rfl) | (go_at_call 9; refine (lawSeries9 dv nv C9 Bv e9 mv lv _ (HS.out.reads 1 rfl) (HS.out.reads 13 rfl) HLN.out).mono ?_; rintro e_ w1 ⟨rfl, hb⟩; replace HS := sB HS hb; clear hb f1_ f2_ f3_ f4_ f5_ f6_))
          go_meet
          case rel => exact sX HS [2, 3, 4, 5, 6, 7, 8, 9, 10, 11, 12, 13, 14, 15, 16, 17, 18, 19]
        · skip
          have hcb : (gc == 0) = true := by rw [hc0]; rfl
          have HQ := Aside0.mk hq
          have hqb : (q == 0) = false := by simpa using hq0
          clear hc0 hq hq0
          have f1_ := HS.out.c 8 0 (v := .int .i64 gd) rfl rfl
          have f2_ := HS.out.c 8 1 (v := .int .i64 gn) rfl rfl
          have f3_ := HS.out.c 8 2 (v := .slice C3 gl.length e3) rfl rfl
          go_wp2_with (first | (go_at_call 7; refine (got (implExponentialOf gd gn C3 e3 gl _ (HS.out.reads 9 rfl) (HS.out.cap 9 rfl) HBG.out) HQ.out).mono ?_; rintro e_ w1 ⟨C10, e10, rfl, hs⟩; replace HS := sN1 HS hs; clear hs f1_ f2_ f3_) | ((with_reducible refine gate_dst (N := 20) rfl ?_); refine bxL 26 #[(.int .i64 0), (.int .i64 0), (.slice none 0 0)] HS ?_; clear HS; intro g_bl w1 hg_bl HS) | ((with_reducible refine gate_store (t := 26) (p := 20) rfl ?_); refine stL HS 0 0 #[.int .i64 0, .int .i64 0, .slice C10 ([] : Ts).length e10] rfl rfl rfl rfl rfl ?_; clear HS; intro w1 HS))
          go_meet
          case rel => exact sX HS [2, 3, 4, 5, 6, 7, 8, 9, 10, 11, 12, 13, 14, 15, 16, 17, 18, 19]
        · skip
          have hcb : (gc == 0) = false := by simpa using hc0
          clear hc0
          go_wp2_with fail
          go_meet
          case rel => exact sX HS [0, 1, 2, 3, 4, 5, 6, 7, 8, 9, 10, 11, 12, 13, 14, 15, 16, 17]
      case rest =>
        have HS := hcut
        clear hcut
        rcases inv_ways HJ.out with ⟨hc0, rfl, rfl, rfl⟩ | ⟨hc0, hun, hm1, hm2⟩
        · have hcb : (jc != 0) = true := by simpa using hc0
          have f1_ := HS.out.c 2 0 (v := .int .i64 0) rfl rfl
          have f2_ := HS.out.c 2 1 (v := .int .i64 0) rfl rfl
          have f3_ := HS.out.c 2 2 (v := .slice C5 ([] : Ts).length e5) rfl rfl
          go_wp2_with (first | (go_at_call 16; refine (lawNone9 _ C5 e5).mono ?_; rintro e_ w1 ⟨rfl, hb⟩; replace HS := sB HS hb; clear hb f1_ f2_ f3_))
          go_ret
          exact ⟨rfl, (HS.out.sel [] (by decide)).below⟩
        · have hcb : (jc != 0) = false := by rw [hc0]; rfl
          have HUN := Aside0.mk hun
          clear hc0 hun
          rcases hm1 with hm1 | ⟨qa, hqa, hm1⟩
          · have HM1 := Aside0.mk hm1
            rcases hm2 with hm2 | ⟨qb, hqb, hm2⟩
            · have HM2 := Aside0.mk hm2
              clear hm1 hm2
              have f1_ := HS.out.c 4 0 (v := .int .i64 dz) rfl rfl
              have f2_ := HS.out.c 4 1 (v := .int .i64 nz) rfl rfl
              have f3_ := HS.out.c 4 2 (v := .slice Bz lz.length mz) rfl rfl
              have f4_ := HS.out.c 2 0 (v := .int .i64 jd) rfl rfl
              have f5_ := HS.out.c 2 1 (v := .int .i64 jn) rfl rfl
              have f6_ := HS.out.c 2 2 (v := .slice C5 jl.length e5) rfl rfl
              have tk1_ : True := trivial
              have tk2_ : True := trivial
              go_wp2_with (first | (go_at_call 17; clear tk1_; refine (got (implMultiplySeries dz nz Bz mz lz jd jn C5 e5 jl _ (HS.out.reads 5 rfl) (HS.out.cap 5 rfl) HBSz.out (HS.out.reads 3 rfl) (HS.out.cap 3 rfl) HBJ.out) HM1.out).mono ?_; rintro e_ w1 ⟨C11, e11, rfl, hs⟩; replace HS := sN1 HS hs; clear hs f1_ f2_ f3_ f4_ f5_ f6_) | ((with_reducible refine gate_dst (N := 22) rfl ?_); refine bxL 26 #[(.int .i64 0), (.int .i64 0), (.slice none 0 0)] HS ?_; clear HS; intro g_fi w1 hg_fi HS) | ((with_reducible refine gate_store (t := 26) (p := 22) rfl ?_); refine stL HS 0 0 #[.int .i64 dz, .int .i64 nz, .slice C11 unitT.length e11] rfl rfl rfl rfl rfl ?_; clear HS; intro w1 HS; have f1_ := HS.out.c 4 0 (v := .int .i64 jd) rfl rfl; have f2_ := HS.out.c 4 1 (v := .int .i64 jn) rfl rfl; have f3_ := HS.out.c 4 2 (v := .slice C5 jl.length e5) rfl rfl; have f4_ := HS.out.c 6 0 (v := .int .i64 dz) rfl rfl; have f5_ := HS.out.c 6 1 (v := .int .i64 nz) rfl rfl; have f6_ := HS.out.c 6 2 (v := .slice Bz lz.length mz) rfl rfl) | (go_at_call 17; refine (got (implMultiplySeries jd jn C5 e5 jl dz nz Bz mz lz _ (HS.out.reads 5 rfl) (HS.out.cap 5 rfl) HBJ.out (HS.out.reads 7 rfl) (HS.out.cap 7 rfl) HBSz.out) HM2.out).mono ?_; rintro e_ w1 ⟨C12, e12, rfl, hs⟩; replace HS := sN1 HS hs; clear hs f1_ f2_ f3_ f4_ f5_ f6_) | ((with_reducible refine gate_dst (N := 24) rfl ?_); refine bxL 26 #[(.int .i64 0), (.int .i64 0), (.slice none 0 0)] HS ?_; clear HS; intro g_se w1 hg_se HS) | ((with_reducible refine gate_store (t := 26) (p := 24) rfl ?_); refine stL HS 0 0 #[.int .i64 dz, .int .i64 nz, .slice C12 unitT.length e12] rfl rfl rfl rfl rfl ?_; clear HS; intro w1 HS; have f1_ := HS.out.c 8 0 (v := .int .i64 dz) rfl rfl; have f2_ := HS.out.c 8 1 (v := .int .i64 nz) rfl rfl) | (go_at_call 18; refine (got (implUnitSeries dz nz _) HUN.out).mono ?_; rintro e_ w1 ⟨C13, e13, rfl, hs⟩; replace HS := sN1 HS hs; clear hs f1_ f2_) | ((with_reducible refine gate_dst (N := 26) rfl ?_); refine bxL 26 #[(.int .i64 0), (.int .i64 0), (.slice none 0 0)] HS ?_; clear HS; intro g_un w1 hg_un HS) | ((with_reducible refine gate_store (t := 26) (p := 26) rfl ?_); refine stL HS 0 0 #[.int .i64 dz, .int .i64 nz, .slice C13 unitT.length e13] rfl rfl rfl rfl rfl ?_; clear HS; intro w1 HS; have f1_ := HS.out.c 4 0 (v := .int .i64 dz) rfl rfl; have f2_ := HS.out.c 4 1 (v := .int .i64 nz) rfl rfl; have f3_ := HS.out.c 4 2 (v := .slice C11 unitT.length e11) rfl rfl; have f4_ := HS.out.c 0 0 (v := .int .i64 dz) rfl rfl; have f5_ := HS.out.c 0 1 (v := .int .i64 nz) rfl rfl; have f6_ := HS.out.c 0 2 (v := .slice C13 unitT.length e13) rfl rfl) | (go_at_call 9; clear tk2_; refine (lawSeries9 dz nz C11 C13 e11 e13 unitT _ (HS.out.reads 5 rfl) (HS.out.reads 1 rfl) (by decide)).mono ?_; rintro e_ w1 ⟨rfl, hb⟩; replace HS := sB HS hb; clear hb f1_ f2_ f3_ f4_ f5_ f6_; have f1_ := HS.out.c 2 0 (v := .int .i64 dz) rfl rfl; have f2_ := HS.out.c 2 1 (v := .int .i64 nz) rfl rfl; have f3_ := HS.out.c 2 2 (v := .slice C12 unitT.length e12) rfl rfl; have f4_ := HS.out.c 0 0 (v := .int .i64 dz) rfl rfl; have f5_ := HS.out.c 0 1 (v := .int .i64 nz) rfl rfl; have f6_ := HS.out.c 0 2 (v := .slice C13 unitT.length e13) rfl rfl) | (go_at_call 9; refine (lawSeries9 dz nz C12 C13 e12 e13 unitT _ (HS.out.reads 3 rfl) (HS.out.reads 1 rfl) (by decide)).mono ?_; rintro e_ w1 ⟨rfl, hb⟩; replace HS := sB HS hb; clear hb f1_ f2_ f3_ f4_ f5_ f6_))
              go_ret
              exact ⟨rfl, (HS.out.sel [] (by decide)).below⟩
            · have HM2 := Aside0.mk hm2
              have hqb0 : (qb != 0) = true := by simpa using hqb
              clear hm1 hm2 hqb
              have f1_ := HS.out.c 4 0 (v := .int .i64 dz) rfl rfl
              have f2_ := HS.out.c 4 1 (v := .int .i64 nz) rfl rfl
              have f3_ := HS.out.c 4 2 (v := .slice Bz lz.length mz) rfl rfl
              have f4_ := HS.out.c 2 0 (v := .int .i64 jd) rfl rfl
              have f5_ := HS.out.c 2 1 (v := .int .i64 jn) rfl rfl
              have f6_ := HS.out.c 2 2 (v := .slice C5 jl.length e5) rfl rfl
              have tk3_ : True := trivial
              go_wp2_with (first | (go_at_call 17; clear tk3_; refine (got (implMultiplySeries dz nz Bz mz lz jd jn C5 e5 jl _ (HS.out.reads 5 rfl) (HS.out.cap 5 rfl) HBSz.out (HS.out.reads 3 rfl) (HS.out.cap 3 rfl) HBJ.out) HM1.out).mono ?_; rintro e_ w1 ⟨C14, e14, rfl, hs⟩; replace HS := sN1 HS hs; clear hs f1_ f2_ f3_ f4_ f5_ f6_) | ((with_reducible refine gate_dst (N := 22) rfl ?_); refine bxL 26 #[(.int .i64 0), (.int .i64 0), (.slice none 0 0)] HS ?_; clear HS; intro g_fi w1 hg_fi HS) | ((with_reducible refine gate_store (t := 26) (p := 22) rfl ?_); refine stL HS 0 0 #[.int .i64 dz, .int .i64 nz, .slice C14 unitT.length e14] rfl rfl rfl rfl rfl ?_; clear HS; intro w1 HS; have f1_ := HS.out.c 4 0 (v := .int .i64 jd) rfl rfl; have f2_ := HS.out.c 4 1 (v := .int .i64 jn) rfl rfl; have f3_ := HS.out.c 4 2 (v := .slice C5 jl.length e5) rfl rfl; have f4_ := HS.out.c 6 0 (v := .int .i64 dz) rfl rfl; have f5_ := HS.out.c 6 1 (v := .int .i64 nz) rfl rfl; have f6_ := HS.out.c 6 2 (v := .slice Bz lz.length mz) rfl rfl) | (go_at_call 17; refine (got (implMultiplySeries jd jn C5 e5 jl dz nz Bz mz lz _ (HS.out.reads 5 rfl) (HS.out.cap 5 rfl) HBJ.out (HS.out.reads 7 rfl) (HS.out.cap 7 rfl) HBSz.out) HM2.out).mono ?_; rintro e_ w1 ⟨C15, e15, rfl, hs⟩; replace HS := sN1 HS hs; clear hs f1_ f2_ f3_ f4_ f5_ f6_) | ((with_reducible refine gate_dst (N := 24) rfl ?_); refine bxL 26 #[(.int .i64 0), (.int .i64 0), (.slice none 0 0)] HS ?_; clear HS; intro g_se w1 hg_se HS) | ((with_reducible refine gate_store (t := 26) (p := 24) rfl ?_); refine stL HS 0 0 #[.int .i64 0, .int .i64 0, .slice C15 ([] : Ts).length e15] rfl rfl rfl rfl rfl ?_; clear HS; intro w1 HS; have f1_ := HS.out.c 8 0 (v := .int .i64 dz) rfl rfl; have f2_ := HS.out.c 8 1 (v := .int .i64 nz) rfl rfl) | (go_at_call 18; refine (got (implUnitSeries dz nz _) HUN.out).mono ?_; rintro e_ w1 ⟨C16, e16, rfl, hs⟩; replace HS := sN1 HS hs; clear hs f1_ f2_) | ((with_reducible refine gate_dst (N := 26) rfl ?_); refine bxL 26 #[(.int .i64 0), (.int .i64 0), (.slice none 0 0)] HS ?_; clear HS; intro g_un w1 hg_un HS) | ((with_reducible refine gate_store (t := 26) (p := 26) rfl ?_); refine stL HS 0 0 #[.int .i64 dz, .int .i64 nz, .slice C16 unitT.length e16] rfl rfl rfl rfl rfl ?_; clear HS; intro w1 HS; have f1_ := HS.out.c 4 0 (v := .int .i64 dz) rfl rfl; have f2_ := HS.out.c 4 1 (v := .int .i64 nz) rfl rfl; have f3_ := HS.out.c 4 2 (v := .slice C14 unitT.length e14) rfl rfl; have f4_ := HS.out.c 0 0 (v := .int .i64 dz) rfl rfl; have f5_ := HS.out.c 0 1 (v := .int .i64 nz) rfl rfl; have f6_ := HS.out.c 0 2 (v := .slice C16 unitT.length e16) rfl rfl) | (go_at_call 9; refine (lawSeries9 dz nz C14 C16 e14 e16 unitT _ (HS.out.reads 5 rfl) (HS.out.reads 1 rfl) (by decide)).mono ?_; rintro e_ w1 ⟨rfl, hb⟩; replace HS := sB HS hb; clear hb f1_ f2_ f3_ f4_ f5_ f6_))
              go_ret
              exact ⟨rfl, (HS.out.sel [] (by decide)).below⟩
          · have HM1 := Aside0.mk hm1
            have hqa0 : (qa != 0) = true := by simpa using hqa
            rcases hm2 with hm2 | ⟨qb, hqb, hm2⟩
            · have HM2 := Aside0.mk hm2
              clear hm1 hm2 hqa
              have f1_ := HS.out.c 4 0 (v := .int .i64 dz) rfl rfl
              have f2_ := HS.out.c 4 1 (v := .int .i64 nz) rfl rfl
              have f3_ := HS.out.c 4 2 (v := .slice Bz lz.length mz) rfl rfl
              have f4_ := HS.out.c 2 0 (v := .int .i64 jd) rfl rfl
              have f5_ := HS.out.c 2 1 (v := .int .i64 jn) rfl rfl
              have f6_ := HS.out.c 2 2 (v := .slice C5 jl.length e5) rfl rfl
              have tk4_ : True := trivial
              go_wp2_with (first | (go_at_call 17; clear tk4_; refine (got (implMultiplySeries dz nz Bz mz lz jd jn C5 e5 jl _ (HS.out.reads 5 rfl) (HS.out.cap 5 rfl) HBSz.out (HS.out.reads 3 rfl) (HS.out.cap 3 rfl) HBJ.out) HM1.out).mono ?_; rintro e_ w1 ⟨C17, e17, rfl, hs⟩; replace HS := sN1 HS hs; clear hs f1_ f2_ f3_ f4_ f5_ f6_) | ((with_reducible refine gate_dst (N := 22) rfl ?_); refine bxL 26 #[(.int .i64 0), (.int .i64 0), (.slice none 0 0)] HS ?_; clear HS; intro g_fi w1 hg_fi HS) | ((with_reducible refine gate_store (t := 26) (p := 22) rfl ?_); refine stL HS 0 0 #[.int .i64 0, .int .i64 0, .slice C17 ([] : Ts).length e17] rfl rfl rfl rfl rfl ?_; clear HS; intro w1 HS; have f1_ := HS.out.c 4 0 (v := .int .i64 jd) rfl rfl; have f2_ := HS.out.c 4 1 (v := .int .i64 jn) rfl rfl; have f3_ := HS.out.c 4 2 (v := .slice C5 jl.length e5) rfl rfl; have f4_ := HS.out.c 6 0 (v := .int .i64 dz) rfl rfl; have f5_ := HS.out.c 6 1 (v := .int .i64 nz) rfl rfl; have f6_ := HS.out.c 6 2 (v := .slice Bz lz.length mz) rfl rfl) | (go_at_call 17; refine (got (implMultiplySeries jd jn C5 e5 jl dz nz Bz mz lz _ (HS.out.reads 5 rfl) (HS.out.cap 5 rfl) HBJ.out (HS.out.reads 7 rfl) (HS.out.cap 7 rfl) HBSz.out) HM2.out).mono ?_; rintro e_ w1 ⟨C18, e18, rfl, hs⟩; replace HS := sN1 HS hs; clear hs f1_ f2_ f3_ f4_ f5_ f6_) | ((with_reducible refine gate_dst (N := 24) rfl ?_); refine bxL 26 #[(.int .i64 0), (.int .i64 0), (.slice none 0 0)] HS ?_; clear HS; intro g_se w1 hg_se HS) | ((with_reducible refine gate_store (t := 26) (p := 24) rfl ?_); refine stL HS 0 0 #[.int .i64 dz, .int .i64 nz, .slice C18 unitT.length e18] rfl rfl rfl rfl rfl ?_; clear HS; intro w1 HS; have f1_ := HS.out.c 8 0 (v := .int .i64 dz) rfl rfl; have f2_ := HS.out.c 8 1 (v := .int .i64 nz) rfl rfl) | (go_at_call 18; refine (got (implUnitSeries dz nz _) HUN.out).mono ?_; rintro e_ w1 ⟨C19, e19, rfl, hs⟩; replace HS := sN1 HS hs; clear hs f1_ f2_) | ((with_reducible refine gate_dst (N := 26) rfl ?_); refine bxL 26 #[(.int .i64 0), (.int .i64 0), (.slice none 0 0)] HS ?_; clear HS; intro g_un w1 hg_un HS) | ((with_reducible refine gate_store (t := 26) (p := 26) rfl ?_); refine stL HS 0 0 #[.int .i64 dz, .int .i64 nz, .slice C19 unitT.length e19] rfl rfl rfl rfl rfl ?_; clear HS; intro w1 HS; have f1_ := HS.out.c 2 0 (v := .int .i64 dz) rfl rfl; have f2_ := HS.out.c 2 1 (v := .int .i64 nz) rfl rfl; have f3_ := HS.out.c 2 2 (v := .slice C18 unitT.length e18) rfl rfl; have f4_ := HS.out.c 0 0 (v := .int .i64 dz) rfl rfl; have f5_ := HS.out.c 0 1 (v := .int .i64 nz) rfl rfl; have f6_ := HS.out.c 0 2 (v := .slice C19 unitT.length e19) rfl rfl) | (go_at_call 9; refine (lawSeries9 dz nz C18 C19 e18 e19 unitT _ (HS.out.reads 3 rfl) (HS.out.reads 1 rfl) (by decide)).mono ?_; rintro e_ w1 ⟨rfl, hb⟩; replace HS := sB HS hb; clear hb f1_ f2_ f3_ f4_ f5_ f6_))
              go_ret
              exact ⟨rfl, (HS.out.sel [] (by decide)).below⟩
            · have HM2 := Aside0.mk hm2
              have hqb0 : (qb != 0) = true := by simpa using hqb
              clear hm1 hm2 hqa hqb
              have f1_ := HS.out.c 4 0 (v := .int .i64 dz) rfl rfl
              have f2_ := HS.out.c 4 1 (v := .int .i64 nz) rfl rfl
              have f3_ := HS.out.c 4 2 (v := .slice Bz lz.length mz) rfl rfl
              have f4_ := HS.out.c 2 0 (v := .int .i64 jd) rfl rfl
              have f5_ := HS.out.c 2 1 (v := .int .i64 jn) rfl rfl
              have f6_ := HS.out.c 2 2 (v := .slice C5 jl.length e5) rfl rfl
              have tk5_ : True := trivial
              go_wp2_with (first | (go_at_call 17; clear tk5_; refine (got (implMultiplySeries dz nz Bz mz lz jd jn C5 e5 jl _ (HS.out.reads 5 rfl) (HS.out.cap 5 rfl) HBSz.out (HS.out.reads 3 rfl) (HS.out.cap 3 rfl) HBJ.out) HM1.out).mono ?_; rintro e_ w1 ⟨C20, e20, rfl, hs⟩; replace HS := sN1 HS hs; clear hs f1_ f2_ f3_ f4_ f5_ f6_) | ((with_reducible refine gate_dst (N := 22) rfl ?_); refine bxL 26 #[(.int .i64 0), (.int .i64 0), (.slice none 0 0)] HS ?_; clear HS; intro g_fi w1 hg_fi HS) | ((with_reducible refine gate_store (t := 26) (p := 22) rfl ?_); refine stL HS 0 0 #[.int .i64 0, .int .i64 0, .slice C20 ([] : Ts).length e20] rfl rfl rfl rfl rfl ?_; clear HS; intro w1 HS; have f1_ := HS.out.c 4 0 (v := .int .i64 jd) rfl rfl; have f2_ := HS.out.c 4 1 (v := .int .i64 jn) rfl rfl; have f3_ := HS.out.c 4 2 (v := .slice C5 jl.length e5) rfl rfl; have f4_ := HS.out.c 6 0 (v := .int .i64 dz) rfl rfl; have f5_ := HS.out.c 6 1 (v := .int .i64 nz) rfl rfl; have f6_ := HS.out.c 6 2 (v := .slice Bz lz.length mz) rfl rfl) | (go_at_call 17; refine (got (implMultiplySeries jd jn C5 e5 jl dz nz Bz mz lz _ (HS.out.reads 5 rfl) (HS.out.cap 5 rfl) HBJ.out (HS.out.reads 7 rfl) (HS.out.cap 7 rfl) HBSz.out) HM2.out).mono ?_; rintro e_ w1 ⟨C21, e21, rfl, hs⟩; replace HS := sN1 HS hs; clear hs f1_ f2_ f3_ f4_ f5_ f6_) | ((with_reducible refine gate_dst (N := 24) rfl ?_); refine bxL 26 #[(.int .i64 0), (.int .i64 0), (.slice none 0 0)] HS ?_; clear HS; intro g_se w1 hg_se HS) | ((with_reducible refine gate_store (t := 26) (p := 24) rfl ?_); refine stL HS 0 0 #[.int .i64 0, .int .i64 0, .slice C21 ([] : Ts).length e21] rfl rfl rfl rfl rfl ?_; clear HS; intro w1 HS; have f1_ := HS.out.c 8 0 (v := .int .i64 dz) rfl rfl; have f2_ := HS.out.c 8 1 (v := .int .i64 nz) rfl rfl) | (go_at_call 18; refine (got (implUnitSeries dz nz _) HUN.out).mono ?_; rintro e_ w1 ⟨C22, e22, rfl, hs⟩; replace HS := sN1 HS hs; clear hs f1_ f2_) | ((with_reducible refine gate_dst (N := 26) rfl ?_); refine bxL 26 #[(.int .i64 0), (.int .i64 0), (.slice none 0 0)] HS ?_; clear HS; intro g_un w1 hg_un HS) | ((with_reducible refine gate_store (t := 26) (p := 26) rfl ?_); refine stL HS 0 0 #[.int .i64 dz, .int .i64 nz, .slice C22 unitT.length e22] rfl rfl rfl rfl rfl ?_; clear HS; intro w1 HS))
              go_ret
              exact ⟨rfl, (HS.out.sel [] (by decide)).below⟩
end Go.Proofs.YtibjkjhpfmmjoaaGreat.H



namespace Go.Proofs.YtibjkjhpfmmjoaaGreat.H
open Go.RowKit Go.ChangeShapes Go.ChangeAt Go.Joins Go.Deep Go.ChangeMaps Go.Proofs.YtibjkjhpfmmjoaaGreatW.PrintWords Go.Proofs.YtibjkjhpfmmjoaaGreatW.PrintLast Go.Proofs.YtibjkjhpfmmjoaaGreatW.PrintMore Go.Proofs.YtibjkjhpfmmjoaaGreat.M
set_option linter.unusedVariables false
set_option maxRecDepth 100000
theorem opensQ_byte {P : Program} {t : TypeId} (ht : P.underlying t = some (.int .u8)) : OpensQ P (Kd.int .u8) t (fun x => 0 ≤ x ∧ x < 256) := fun H enc w fuel cs x h => by
  obtain ⟨n, hn, _, hw⟩ := DataW.trod_int ht h
  refine ⟨n, ?_, hn⟩
  simp only [Lit.wf, Bool.and_eq_true, decide_eq_true_eq] at hw
  have h1 : IntKind.u8.min = 0 := by decide
  have h2 : IntKind.u8.max = 255 := by decide
  rw [h1, h2] at hw
  omega
theorem openBytes {H : Type} {enc : TypeId × Value → H} {W : World} {r : Reach} {b0 : Nat} {v : Value} {dd : DataW H} {p : List MemPlace} (hval : Value.okWide Tryz.prog W r b0 22 v) (h : DataW.Trod enc Tryz.prog W 0 (fun _ => true) true 22 v dd p) :
    ∃ A c, ∃ l : List Int, v = .slice A l.length c ∧ (∀ x ∈ l, 0 ≤ x ∧ x < 256) ∧ (Kd.int .u8).C W A l.length l := by
  obtain ⟨A, n, c, rfl⟩ := Go.WideShapes.okWide_slice Tryz.underlying22 hval
  obtain ⟨fuel, hf⟩ := h
  have ho : OpensQ Tryz.prog (Kd.slice 5 (Kd.int .u8)) 22 (fun l => ∀ a ∈ l, 0 ≤ a ∧ a < 256) := opensQ_slice Tryz.underlying22 (by kernel_rfl) (opensQ_byte Tryz.underlying5)
  obtain ⟨l, hq, A', c', e1, hl, hr⟩ := ho _ _ _ _ _ _ hf
  have e2 : Value.slice A n c = .slice A' l.length c' := by simpa [Value.cells] using e1
  injection e2 with e3 e4 e5
  subst e3 e4 e5
  exact ⟨A, c, l, rfl, hq, hr⟩
end Go.Proofs.YtibjkjhpfmmjoaaGreat.H


