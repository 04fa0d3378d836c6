/- Plain facts and contracts of functions that the law's walk uses. Conditions: those that stand in each statement. -/
import Derived.Test.YtibjkjhpfmmjoaaSpG2
import Derived.Test.YtibjkjhpfmmjoaaSpG7
import Derived.Test.YtibjkjhpfmmjoaaSpG6
import Derived.Test.YtibjkjhpfmmjoaaSpG4
import Derived.Laws.BitsLemmas
import Derived.Laws.Bits64
import Derived.Test.YtibjkjhpfmmjoaaSpG3
import Derived.Test.YtibjkjhpfmmjoaaSpG5
namespace Go.Proofs.Ytibjkjhpfmmjoaa.M
set_option linter.unusedVariables false
set_option linter.unusedSimpArgs false
theorem isS_mk {d n : Int} {p : Ts} (h : lev d n = true) (hp : isTs d.toNat n.toNat p = true) : isS d n p = true := by unfold isS; rw [h, hp]; rfl
theorem lev_nat {d n : Int} (h : lev d n = true) : d.toNat ≤ 3 ∧ n.toNat ≤ 5 ∧ d.toNat ≤ 9 := by have := lev_iff.1 h; omega
theorem isS_bnd' {d n : Int} {p : Ts} (h : isS d n p = true) : bnd p = true := by
  obtain ⟨h1, h2, _⟩ := lev_nat (isS_l h)
  exact isTs_bnd h1 h2 (isS_t h)
theorem resO_cases {d n : Int} (hl : lev d n = true) {o : Option Ts} (ho : ∀ p, o = some p → isTs d.toNat n.toNat p = true) : (∃ p, o = some p ∧ resO d n o = (d, n, p, 0) ∧ isS d n p = true) ∨ (o = none ∧ resO d n o = noS 3) := by
  cases o with
  | none => exact .inr ⟨rfl, rfl⟩
  | some p => exact .inl ⟨p, rfl, rfl, isS_mk hl (ho p rfl)⟩
abbrev mulR (d n : Int) (l : Ts) (d2 n2 : Int) (l2 : Ts) : Rs := twoR mulS d n l d2 n2 l2
theorem codeR_same {d n : Int} {x y : Ts} (hx : isS d n x = true) (hy : isS d n y = true) : codeR d n x d n y = 0 := codeR_4 hx hy (by simp)
theorem mulR_same {d n : Int} {x y : Ts} (hx : isS d n x = true) (hy : isS d n y = true) : mulR d n x d n y = resO d n (mulS d.toNat n.toNat x y) := by
  unfold mulR twoR
  rw [if_pos (codeR_same hx hy)]
theorem mulR_cases (d n : Int) (x : Ts) (d2 n2 : Int) (y : Ts) :
    (∃ p, isS d n x = true ∧ isS d n y = true ∧ d = d2 ∧ n = n2 ∧ mulS d.toNat n.toNat x y = some p ∧ mulR d n x d2 n2 y = (d, n, p, 0) ∧ isS d n p = true) ∨ ∃ c, c ≠ 0 ∧ mulR d n x d2 n2 y = noS c := by
  by_cases h : codeR d n x d2 n2 y = 0
  · obtain ⟨h1, h2, h3, h4⟩ := codeR_zero h
    subst h3 h4
    obtain ⟨_, _, h9⟩ := lev_nat (isS_l h1)
    rw [mulR_same h1 h2]
    rcases resO_cases (isS_l h1) (o := mulS d.toNat n.toNat x y) fun p hp => mul_ts h9 hp with ⟨p, e1, e2, e3⟩ | ⟨e1, e2⟩
    · exact .inl ⟨p, h1, h2, rfl, rfl, e1, e2, e3⟩
    · exact .inr ⟨3, by decide, e2⟩
  · refine .inr ⟨_, h, ?_⟩
    unfold mulR twoR
    rw [if_neg h]
theorem noS_bnd (c : Int) : bnd (noS c).2.2.1 = true := rfl
theorem mulR_bnd (d n : Int) (x : Ts) (d2 n2 : Int) (y : Ts) : bnd (mulR d n x d2 n2 y).2.2.1 = true := by
  rcases mulR_cases d n x d2 n2 y with ⟨p, _, _, _, _, _, e, h⟩ | ⟨c, _, e⟩
  · rw [e]; exact isS_bnd' h
  · rw [e]; exact noS_bnd c
theorem unit_isS {d n : Int} (h : lev d n = true) : isS d n unitT = true := isS_mk h (unit_ts _ _)
theorem unitR_yes {d n : Int} (h : lev d n = true) : unitR d n = (d, n, unitT, 0) := by unfold unitR; rw [if_pos h]
theorem mulR_unit_l {d n : Int} {x : Ts} (h : isS d n x = true) : mulR d n unitT d n x = (d, n, x, 0) := by
  rw [mulR_same (unit_isS (isS_l h)) h, mul_unit_l (lev_nat (isS_l h)).2.2 (isS_t h)]
  rfl
theorem mulR_unit_r {d n : Int} {x : Ts} (h : isS d n x = true) : mulR d n x d n unitT = (d, n, x, 0) := by
  rw [mulR_same h (unit_isS (isS_l h)), mul_unit_r (lev_nat (isS_l h)).2.2 (isS_t h)]
  rfl
theorem mulR_assoc {d n : Int} {x y p : Ts} (h : mulR d n x d n y = (d, n, p, 0)) (h1 : (mulR d n p d n x).2.2.2 = 0) (h2 : (mulR d n y d n x).2.2.2 = 0) (h3 : (mulR d n x (mulR d n y d n x).1 (mulR d n y d n x).2.1 (mulR d n y d n x).2.2.1).2.2.2 = 0) :
    mulR d n p d n x = mulR d n x (mulR d n y d n x).1 (mulR d n y d n x).2.1 (mulR d n y d n x).2.2.1 := by
  rcases mulR_cases d n y d n x with ⟨r, hy, hx, _, _, er, e2, hr⟩ | ⟨c, hc, e2⟩
  · rw [e2] at h3 ⊢
    have h3' : (mulR d n x d n r).2.2.2 = 0 := h3
    show mulR d n p d n x = mulR d n x d n r
    rcases mulR_cases d n p d n x with ⟨q, hp, _, _, _, eq, e1, hq⟩ | ⟨c, hc, e1⟩
    · rcases mulR_cases d n x d n r with ⟨s, _, _, _, _, es, e3, hs⟩ | ⟨c, hc, e3⟩
      · rcases mulR_cases d n x d n y with ⟨p', _, _, _, _, ep, e0, _⟩ | ⟨c, hc, e0⟩
        · rw [h] at e0
          obtain rfl : p = p' := by injection e0 with _ h5; injection h5 with _ h5; injection h5
          rw [e1, e3, mul_assocS (lev_nat (isS_l hx)).2.2 (isS_t hx) (isS_t hy) (isS_t hx) ep eq er es]
        · rw [h] at e0; exact absurd (congrArg (·.2.2.2) e0).symm hc
      · rw [e3] at h3'; exact absurd h3' hc
    · rw [e1] at h1; exact absurd h1 hc
  · rw [e2] at h2; exact absurd h2 hc
end Go.Proofs.Ytibjkjhpfmmjoaa.M

namespace Go.Proofs.Ytibjkjhpfmmjoaa.M
def powR (d n : Int) (l : Ts) (k : Int) : Rs := if isS d n l = true then if inR k 0 12 = true then resO d n (powO d.toNat n.toNat (some l) k.toNat) else noS 2 else noS 1
theorem pow_none {d n : Nat} {o : Option Ts} {i : Nat} (h : powO d n o i = none) : ∀ {j : Nat}, i ≤ j → powO d n o j = none
  | 0, hj => by obtain rfl : i = 0 := by omega
                exact h
  | j + 1, hj => by
    by_cases e : i = j + 1
    · rw [← e]; exact h
    · rw [powO, pow_none h (j := j) (by omega)]; rfl
theorem pow_len {d n : Int} {l : Ts} {k : Int} : (powR d n l k).2.2.1.length ≤ 1048576 := by
  unfold powR
  split
  · rename_i h
    split
    · obtain ⟨⟨e1, e2⟩, ⟨e3, e4⟩, _⟩ := lev_iff.1 (isS_l h)
      cases hp : powO d.toNat n.toNat (some l) k.toNat with
      | none => show (0 : Nat) ≤ _; decide
      | some p =>
        have h1 := ts_length_le (d := d.toNat) (n := n.toNat) (by omega) (pow_ts (by omega) hp)
        have h2 := ahead_le (d := d.toNat) (k := n.toNat + 1) (by omega) (by omega)
        show p.length ≤ _
        omega
    · show (0 : Nat) ≤ _; decide
  · show (0 : Nat) ≤ _; decide
end Go.Proofs.Ytibjkjhpfmmjoaa.M
namespace Go.Proofs.Ytibjkjhpfmmjoaa.H
open Go.RowKit Go.Proofs.YtibjkjhpfmmjoaaW.PrintWords Go.Proofs.YtibjkjhpfmmjoaaW.PrintLast Go.Proofs.YtibjkjhpfmmjoaaW.PrintMore Go.Proofs.Ytibjkjhpfmmjoaa.M
attribute [local go_sem] max2_int min2_int max_two min_two max_three min_three max_four min_four resQ
set_option linter.unusedVariables false
set_option linter.unusedSimpArgs false
set_option maxRecDepth 100000
set_option maxHeartbeats 8000000 in
theorem tabPower {w : World} {d n g v : Nat} {F : Tb} {o : Option Ts} (hl : lev d n = true) (h : TabI w g v d n F o) (kk : Nat) (hk : kk ≤ 12) :
    Calls Try.prog 76 #[.pointer (some ⟨g, 0, none⟩), .int .i64 (kk : Int)] w (RetT w d n (powO d n o kk)) := by
  have HL := Aside0.mk hl
  have H1 := Aside0.mk h
  have HS := Aside0.mk (Sep.refl w)
  clear hl h
  go_enter Try.func76, Try.ntmps76
  go_wp2_with (first | (go_at_call 80; refine (tabUnit HL.out (H1.out.old HS.out)).mono ?_; rintro e_ w1 ⟨ga, va, Fa, rfl, hF, hQ, hs⟩; replace HS := sN2 HS hs; clear hs; have HFa := Aside0.mk hF; have HQa := Aside0.mk hQ; clear hF hQ))
  go_loopw [5, 9] (fun x q w' => ∃ (i ga va : Nat) (Fa : Tb), i ≤ kk ∧ q = .int .i64 (i : Int) ∧ x = .pointer (some ⟨ga, 0, none⟩) ∧ Aside0 (good Fa.1) ∧ Aside0 (Rel d n (powO d n o i) Fa) ∧ Aside0 (Mod w w' No [tS ga va d n (nW d n) Fa.2, tV va d n Fa.1])) (fun _ q _ => kk - (intOf q).toNat)
  case atStart => exact ⟨0, ga, va, Fa, by omega, rfl, rfl, HFa, HQa, HS⟩
  case round =>
    clear HS HFa HQa
    obtain ⟨i, ga, va, Fa, hi, rfl, rfl, HFa, HQa, HS⟩ := hrel
    by_cases hlt : i < kk
    · skip
      go_wp2_with (first | (go_at_call 68; refine (tabTimes HL.out ⟨HFa.out, HQa.out, HS.out.at (i := 0) rfl, HS.out.at (i := 1) rfl⟩ (H1.out.old HS.out)).mono ?_; rintro e_ w1 ⟨gb, vb, Fb, rfl, hF, hQ, hs⟩; replace HS := sN2 HS hs; clear hs; have HFb := Aside0.mk hF; have HQb := Aside0.mk hQ; clear hF hQ))
      go_roundw
      case rel => exact ⟨i + 1, gb, vb, Fb, by omega, by go_num, rfl, HFb, HQb, sX HS [0, 1]⟩
      case measure => simp [intOf]; omega
    · obtain rfl : i = kk := by omega
      go_wp2
      go_ret
      exact ⟨ga, va, Fa, rfl, HFa.out, HQa.out, HS.out⟩
set_option maxHeartbeats 8000000 in
theorem specPowerSeries (d n : Int) (A : Option Addr) (c : Nat) (l : Ts) (k : Int) (w : World) (hr : KT.C w A l.length l) (hc : l.length ≤ c) (hb : bnd l = true) :
    Calls Try.prog 26 #[.agg #[.int .i64 d, .int .i64 n, .slice A l.length c], .int .i64 k] w (RetS w (powR d n l k)) := by
  have HR := Aside0.mk hr
  have HB := Aside0.mk hb
  have HS := Aside0.mk (Sep.refl w)
  clear hr hb
  unfold powR
  cases h : isS d n l with
  | false =>
    go_enter Try.func26, Try.ntmps26
    go_wp2_with (first | ((with_reducible refine gate_dst (N := 2) rfl ?_); refine bxL 26 #[.int .i64 d, .int .i64 n, .slice A l.length c] HS ?_; clear HS; intro g_p w1 hg_p HS) | ((with_reducible refine gate_dst (N := 4) rfl ?_); refine bxL 26 #[(.int .i64 0), (.int .i64 0), (.slice none 0 0)] HS ?_; clear HS; intro g_r w1 hg_r HS; have f1_ := HS.out.c 1 0 (v := .int .i64 d) rfl rfl; have f2_ := HS.out.c 1 1 (v := .int .i64 n) rfl rfl; have f3_ := HS.out.c 1 2 (v := .slice A l.length c) rfl rfl) | (go_at_call 54; refine (specIs d n A c l _ (HS.out.oldC HR.out) hc HB.out).mono ?_; rintro e_ w1 ⟨rfl, hb⟩; replace HS := sB HS hb; clear hb f1_ f2_ f3_) | ((with_reducible refine gate_store (t := 26) (p := 4) rfl ?_); refine stL HS 0 0 #[(.int .i64 0), (.int .i64 0), (.slice none 0 0)] rfl rfl rfl rfl rfl ?_; clear HS; intro w1 HS))
    refine bodyPost_ret (results_cell_tmp_row rfl _ _ g_r 26 #[(.int .i64 0), (.int .i64 0), (.slice none 0 0)] (0, 0) _ rfl (HS.out.at (i := 0) rfl) Try.underlying26 rfl (by kernel_rfl)) rfl ?_
    exact ⟨none, 0, rfl, nilS (HS.out.sel [] (by decide))⟩
  | true =>
    have HX := Aside0.mk (isS_t h)
    obtain ⟨d, n, rfl, rfl, hd1, hd3, hn1, hn5⟩ := lev_nat (isS_l h)
    have hd9 : d ≤ 9 := by omega
    rw [Int.toNat_natCast, Int.toNat_natCast] at HX ⊢
    cases h2 : inR k 0 12 with
    | false =>
      go_enter Try.func26, Try.ntmps26
      go_wp2_with (first | ((with_reducible refine gate_dst (N := 2) rfl ?_); refine bxL 26 #[.int .i64 (d : Int), .int .i64 (n : Int), .slice A l.length c] HS ?_; clear HS; intro g_p w1 hg_p HS) | ((with_reducible refine gate_dst (N := 4) rfl ?_); refine bxL 26 #[(.int .i64 0), (.int .i64 0), (.slice none 0 0)] HS ?_; clear HS; intro g_r w1 hg_r HS; have f1_ := HS.out.c 1 0 (v := .int .i64 (d : Int)) rfl rfl; have f2_ := HS.out.c 1 1 (v := .int .i64 (n : Int)) rfl rfl; have f3_ := HS.out.c 1 2 (v := .slice A l.length c) rfl rfl) | (go_at_call 54; refine (specIs d n A c l _ (HS.out.oldC HR.out) hc HB.out).mono ?_; rintro e_ w1 ⟨rfl, hb⟩; replace HS := sB HS hb; clear hb f1_ f2_ f3_) | (go_at_call 61; refine (specInB _ _ _ _).mono ?_; rintro e_ w1 ⟨rfl, hb⟩; replace HS := sB HS hb; clear hb) | ((with_reducible refine gate_store (t := 26) (p := 4) rfl ?_); refine stL HS 0 0 #[(.int .i64 0), (.int .i64 0), (.slice none 0 0)] rfl rfl rfl rfl rfl ?_; clear HS; intro w1 HS))
      refine bodyPost_ret (results_cell_tmp_row rfl _ _ g_r 26 #[(.int .i64 0), (.int .i64 0), (.slice none 0 0)] (0, 0) _ rfl (HS.out.at (i := 0) rfl) Try.underlying26 rfl (by kernel_rfl)) rfl ?_
      exact ⟨none, 0, rfl, nilS (HS.out.sel [] (by decide))⟩
    | true =>
      have h3 := (inR_iff _ _ _).1 h2
      obtain ⟨kk, rfl⟩ : ∃ kk : Nat, k = kk := ⟨k.toNat, by omega⟩
      rw [Int.toNat_natCast, if_pos rfl, if_pos rfl]
      have hkk : kk ≤ 12 := by omega
      have HTM := Aside0.mk (fun B b z W k1 k2 k3 k4 => specTimes2 d n hd3 hn5 B b z A c l W k1 k2 k3 hc k4 HX.out)
      clear h3
      go_enter Try.func26, Try.ntmps26
      go_wp2_with (first | ((with_reducible refine gate_dst (N := 2) rfl ?_); refine bxL 26 #[.int .i64 (d : Int), .int .i64 (n : Int), .slice A l.length c] HS ?_; clear HS; intro g_p w1 hg_p HS) | ((with_reducible refine gate_dst (N := 4) rfl ?_); refine bxL 26 #[(.int .i64 0), (.int .i64 0), (.slice none 0 0)] HS ?_; clear HS; intro g_r w1 hg_r HS; have f1_ := HS.out.c 1 0 (v := .int .i64 (d : Int)) rfl rfl; have f2_ := HS.out.c 1 1 (v := .int .i64 (n : Int)) rfl rfl; have f3_ := HS.out.c 1 2 (v := .slice A l.length c) rfl rfl) | (go_at_call 54; refine (specIs d n A c l _ (HS.out.oldC HR.out) hc HB.out).mono ?_; rintro e_ w1 ⟨rfl, hb⟩; replace HS := sB HS hb; clear hb f1_ f2_ f3_) | (go_at_call 61; refine (specInB _ _ _ _).mono ?_; rintro e_ w1 ⟨rfl, hb⟩; replace HS := sB HS hb; clear hb; have f1_ := HS.out.c 1 0 (v := .int .i64 (d : Int)) rfl rfl; have f2_ := HS.out.c 1 1 (v := .int .i64 (n : Int)) rfl rfl; have f3_ := HS.out.c 1 2 (v := .slice A l.length c) rfl rfl) | (go_at_call 77; refine (specUnit d n A l.length c _).mono ?_; rintro e_ w1 ⟨B, b, rfl, hs⟩; replace HS := sN1 HS hs; clear hs f1_ f2_ f3_) | ((with_reducible refine gate_dst (N := 6) rfl ?_); refine bxL 26 #[(.int .i64 0), (.int .i64 0), (.slice none 0 0)] HS ?_; clear HS; intro g_q w1 hg_q HS) | ((with_reducible refine gate_store (t := 26) (p := 6) rfl ?_); refine stL HS 0 0 #[.int .i64 (d : Int), .int .i64 (n : Int), .slice B unitT.length b] rfl rfl rfl rfl rfl ?_; clear HS; intro w1 HS))
      simp only [Act.put, List.setIfInBounds_toArray, List.set_cons_zero, List.set_cons_succ]
      go_loopw [1] (fun v w' => ∃ (j : Nat) (B : Option Addr) (b : Nat) (z : Ts), j ≤ kk ∧ v = .int .i64 (j : Int) ∧ Aside0 (powO d n (some l) (kk - j) = some z) ∧ Aside0 (Mod w w' No [bx g_q 26 #[.int .i64 (d : Int), .int .i64 (n : Int), .slice B z.length b], rowT B b z, bx g_r 26 #[(.int .i64 0), (.int .i64 0), (.slice none 0 0)], bx g_p 26 #[.int .i64 (d : Int), .int .i64 (n : Int), .slice A l.length c]])) (fun v _ => (intOf v).toNat)
      case atStart => exact ⟨kk, B, b, unitT, by omega, rfl, ⟨by rw [Nat.sub_self]; rfl⟩, HS⟩
      case round =>
        clear HS
        obtain ⟨j, B, b, z, hj, rfl, HZ, HS⟩ := hrel
        have HZT := Aside0.mk (pow_ts hd9 HZ.out)
        by_cases hlt : 0 < j
        · obtain ⟨m, hm⟩ : ∃ m, m = mulS d n z l := ⟨_, rfl⟩
          have HP := Aside0.mk (fun W k1 k2 k3 => hm ▸ HTM.out B b z W k1 k2 k3 HZT.out)
          have HN := Aside0.mk (show powO d n (some l) (kk - (j - 1)) = m by rw [show kk - (j - 1) = kk - j + 1 by omega, powO, HZ.out, hm]; rfl)
          clear hm
          cases m with
          | none =>
            have f1_ := HS.out.c 0 0 (v := .int .i64 (d : Int)) rfl rfl
            have f2_ := HS.out.c 0 1 (v := .int .i64 (n : Int)) rfl rfl
            have f3_ := HS.out.c 0 2 (v := .slice B z.length b) rfl rfl
            have f4_ := HS.out.c 3 0 (v := .int .i64 (d : Int)) rfl rfl
            have f5_ := HS.out.c 3 1 (v := .int .i64 (n : Int)) rfl rfl
            have f6_ := HS.out.c 3 2 (v := .slice A l.length c) rfl rfl
            go_wp2_with (first | (go_at_call 71; refine (HP.out _ (HS.out.reads 1 rfl) (HS.out.cap 1 rfl) (HS.out.oldC HR.out)).mono ?_; rintro e_ w1 ⟨B2, b2, rfl, hs⟩; replace HS := sN1 HS hs; clear hs f1_ f2_ f3_ f4_ f5_ f6_) | ((with_reducible refine gate_dst (N := 7) rfl ?_); refine bxL 26 #[(.int .i64 0), (.int .i64 0), (.slice none 0 0)] HS ?_; clear HS; intro g_y w1 hg_y HS) | ((with_reducible refine gate_store (t := 26) (p := 7) rfl ?_); refine stL HS 0 0 #[.int .i64 0, .int .i64 0, .slice B2 ([] : Ts).length b2] rfl rfl rfl rfl rfl ?_; clear HS; intro w1 HS) | ((with_reducible refine gate_store (t := 26) (p := 4) rfl ?_); refine stL HS 4 0 #[(.int .i64 0), (.int .i64 0), (.slice none 0 0)] rfl rfl rfl rfl rfl ?_; clear HS; intro w1 HS))
            refine bodyPost_ret (results_cell_tmp_row rfl _ _ g_r 26 #[(.int .i64 0), (.int .i64 0), (.slice none 0 0)] (0, 0) _ rfl (HS.out.at (i := 4) rfl) Try.underlying26 rfl (by kernel_rfl)) rfl ?_
            rw [pow_none HN.out (by omega)]
            exact ⟨none, 0, rfl, nilS (HS.out.sel [] (by decide))⟩
          | some z' =>
            have f1_ := HS.out.c 0 0 (v := .int .i64 (d : Int)) rfl rfl
            have f2_ := HS.out.c 0 1 (v := .int .i64 (n : Int)) rfl rfl
            have f3_ := HS.out.c 0 2 (v := .slice B z.length b) rfl rfl
            have f4_ := HS.out.c 3 0 (v := .int .i64 (d : Int)) rfl rfl
            have f5_ := HS.out.c 3 1 (v := .int .i64 (n : Int)) rfl rfl
            have f6_ := HS.out.c 3 2 (v := .slice A l.length c) rfl rfl
            go_wp2_with (first | (go_at_call 71; refine (HP.out _ (HS.out.reads 1 rfl) (HS.out.cap 1 rfl) (HS.out.oldC HR.out)).mono ?_; rintro e_ w1 ⟨B2, b2, rfl, hs⟩; replace HS := sN1 HS hs; clear hs f1_ f2_ f3_ f4_ f5_ f6_) | ((with_reducible refine gate_dst (N := 7) rfl ?_); refine bxL 26 #[(.int .i64 0), (.int .i64 0), (.slice none 0 0)] HS ?_; clear HS; intro g_y w1 hg_y HS) | ((with_reducible refine gate_store (t := 26) (p := 7) rfl ?_); refine stL HS 0 0 #[.int .i64 (d : Int), .int .i64 (n : Int), .slice B2 z'.length b2] rfl rfl rfl rfl rfl ?_; clear HS; intro w1 HS; have f1_ := HS.out.c 0 0 (v := .int .i64 (d : Int)) rfl rfl; have f2_ := HS.out.c 0 1 (v := .int .i64 (n : Int)) rfl rfl; have f3_ := HS.out.c 0 2 (v := .slice B2 z'.length b2) rfl rfl) | ((with_reducible refine gate_store (t := 26) (p := 6) rfl ?_); refine stL HS 2 0 #[.int .i64 (d : Int), .int .i64 (n : Int), .slice B2 z'.length b2] rfl rfl rfl rfl rfl ?_; clear HS f1_ f2_ f3_; intro w1 HS))
            go_roundw
            case rel => exact ⟨j - 1, B2, b2, z', by omega, by first | go_num | (congr 1; omega), HN, sX HS [2, 1, 4, 5]⟩
            case measure => simp [intOf]; omega
        · obtain rfl : j = 0 := by omega
          have f1_ := HS.out.c 0 0 (v := .int .i64 (d : Int)) rfl rfl
          have f2_ := HS.out.c 0 1 (v := .int .i64 (n : Int)) rfl rfl
          have f3_ := HS.out.c 0 2 (v := .slice B z.length b) rfl rfl
          go_wp2_with (first | ((with_reducible refine gate_store (t := 26) (p := 4) rfl ?_); refine stL HS 2 0 #[.int .i64 (d : Int), .int .i64 (n : Int), .slice B z.length b] rfl rfl rfl rfl rfl ?_; clear HS f1_ f2_ f3_; intro w1 HS))
          refine bodyPost_ret (results_cell_tmp_row rfl _ _ g_r 26 #[.int .i64 (d : Int), .int .i64 (n : Int), .slice B z.length b] (0, 0) _ rfl (HS.out.at (i := 2) rfl) Try.underlying26 rfl (by kernel_rfl)) rfl ?_
          have e_ : powO d n (some l) kk = some z := HZ.out
          rw [e_]
          exact ⟨B, b, rfl, HS.out.sel [1] (by decide)⟩
set_option maxHeartbeats 8000000 in
theorem implPowerSeries (d n : Int) (A : Option Addr) (c : Nat) (l : Ts) (k : Int) (w : World) (hr : KT.C w A l.length l) (hc : l.length ≤ c) (hb : bnd l = true) :
    Calls Try.prog 25 #[.agg #[.int .i64 d, .int .i64 n, .slice A l.length c], .int .i64 k] w (RetS w (powR d n l k)) := by
  have HR := Aside0.mk hr
  have HB := Aside0.mk hb
  have HS := Aside0.mk (Sep.refl w)
  clear hr hb
  unfold powR
  cases h : isS d n l with
  | false =>
    go_enter Try.func25, Try.ntmps25
    go_wp2_with (first | ((with_reducible refine gate_dst (N := 2) rfl ?_); refine bxL 26 #[.int .i64 d, .int .i64 n, .slice A l.length c] HS ?_; clear HS; intro g_p w1 hg_p HS) | ((with_reducible refine gate_dst (N := 4) rfl ?_); refine bxL 26 #[(.int .i64 0), (.int .i64 0), (.slice none 0 0)] HS ?_; clear HS; intro g_r w1 hg_r HS; have f1_ := HS.out.c 1 0 (v := .int .i64 d) rfl rfl; have f2_ := HS.out.c 1 1 (v := .int .i64 n) rfl rfl; have f3_ := HS.out.c 1 2 (v := .slice A l.length c) rfl rfl) | (go_at_call 52; refine (implIs d n A c l _ (HS.out.oldC HR.out) hc HB.out).mono ?_; rintro e_ w1 ⟨rfl, hb⟩; replace HS := sB HS hb; clear hb f1_ f2_ f3_) | ((with_reducible refine gate_store (t := 26) (p := 4) rfl ?_); refine stL HS 0 0 #[(.int .i64 0), (.int .i64 0), (.slice none 0 0)] rfl rfl rfl rfl rfl ?_; clear HS; intro w1 HS))
    refine bodyPost_ret (results_cell_tmp_row rfl _ _ g_r 26 #[(.int .i64 0), (.int .i64 0), (.slice none 0 0)] (0, 0) _ rfl (HS.out.at (i := 0) rfl) Try.underlying26 rfl (by kernel_rfl)) rfl ?_
    exact ⟨none, 0, rfl, nilS (HS.out.sel [] (by decide))⟩
  | true =>
    have HX := Aside0.mk (isS_t h)
    have hlev := isS_l h
    obtain ⟨d, n, rfl, rfl, hd1, hd3, hn1, hn5⟩ := lev_nat hlev
    have HL := Aside0.mk hlev
    clear hlev
    rw [Int.toNat_natCast, Int.toNat_natCast] at HX ⊢
    cases h2 : inR k 0 12 with
    | false =>
      go_enter Try.func25, Try.ntmps25
      go_wp2_with (first | ((with_reducible refine gate_dst (N := 2) rfl ?_); refine bxL 26 #[.int .i64 (d : Int), .int .i64 (n : Int), .slice A l.length c] HS ?_; clear HS; intro g_p w1 hg_p HS) | ((with_reducible refine gate_dst (N := 4) rfl ?_); refine bxL 26 #[(.int .i64 0), (.int .i64 0), (.slice none 0 0)] HS ?_; clear HS; intro g_r w1 hg_r HS; have f1_ := HS.out.c 1 0 (v := .int .i64 (d : Int)) rfl rfl; have f2_ := HS.out.c 1 1 (v := .int .i64 (n : Int)) rfl rfl; have f3_ := HS.out.c 1 2 (v := .slice A l.length c) rfl rfl) | (go_at_call 52; refine (implIs d n A c l _ (HS.out.oldC HR.out) hc HB.out).mono ?_; rintro e_ w1 ⟨rfl, hb⟩; replace HS := sB HS hb; clear hb f1_ f2_ f3_) | (go_at_call 58; refine (implInB _ _ _ _).mono ?_; rintro e_ w1 ⟨rfl, hb⟩; replace HS := sB HS hb; clear hb) | ((with_reducible refine gate_store (t := 26) (p := 4) rfl ?_); refine stL HS 0 0 #[(.int .i64 0), (.int .i64 0), (.slice none 0 0)] rfl rfl rfl rfl rfl ?_; clear HS; intro w1 HS))
      refine bodyPost_ret (results_cell_tmp_row rfl _ _ g_r 26 #[(.int .i64 0), (.int .i64 0), (.slice none 0 0)] (0, 0) _ rfl (HS.out.at (i := 0) rfl) Try.underlying26 rfl (by kernel_rfl)) rfl ?_
      exact ⟨none, 0, rfl, nilS (HS.out.sel [] (by decide))⟩
    | true =>
      have h3 := (inR_iff _ _ _).1 h2
      obtain ⟨kk, rfl⟩ : ∃ kk : Nat, k = kk := ⟨k.toNat, by omega⟩
      rw [Int.toNat_natCast, if_pos rfl, if_pos rfl]
      have hkk : kk ≤ 12 := by omega
      clear h3
      go_enter Try.func25, Try.ntmps25
      go_wp2_with (first | ((with_reducible refine gate_dst (N := 2) rfl ?_); refine bxL 26 #[.int .i64 (d : Int), .int .i64 (n : Int), .slice A l.length c] HS ?_; clear HS; intro g_p w1 hg_p HS) | ((with_reducible refine gate_dst (N := 4) rfl ?_); refine bxL 26 #[(.int .i64 0), (.int .i64 0), (.slice none 0 0)] HS ?_; clear HS; intro g_r w1 hg_r HS; have f1_ := HS.out.c 1 0 (v := .int .i64 (d : Int)) rfl rfl; have f2_ := HS.out.c 1 1 (v := .int .i64 (n : Int)) rfl rfl; have f3_ := HS.out.c 1 2 (v := .slice A l.length c) rfl rfl) | (go_at_call 52; refine (implIs d n A c l _ (HS.out.oldC HR.out) hc HB.out).mono ?_; rintro e_ w1 ⟨rfl, hb⟩; replace HS := sB HS hb; clear hb f1_ f2_ f3_) | (go_at_call 58; refine (implInB _ _ _ _).mono ?_; rintro e_ w1 ⟨rfl, hb⟩; replace HS := sB HS hb; clear hb; have f1_ := HS.out.c 1 0 (v := .int .i64 (d : Int)) rfl rfl; have f2_ := HS.out.c 1 1 (v := .int .i64 (n : Int)) rfl rfl; have f3_ := HS.out.c 1 2 (v := .slice A l.length c) rfl rfl) | (go_at_call 64; refine (tabOpen A c l _ HL.out (HS.out.oldC HR.out) HX.out).mono ?_; rintro e_ w1 ⟨g, v, F, rfl, hF, hQ, hs⟩; replace HS := sN2 HS hs; clear hs f1_ f2_ f3_; have HF1 := Aside0.mk hF; have HQ1 := Aside0.mk hQ; clear hF hQ) | (go_at_call 76; refine (tabPower HL.out ⟨HF1.out, HQ1.out, HS.out.at (i := 0) rfl, HS.out.at (i := 1) rfl⟩ kk hkk).mono ?_; rintro e_ w1 ⟨g3, v3, F3, rfl, hF, hQ, hs⟩; replace HS := sN2 HS hs; clear hs; have HF3 := Aside0.mk hF; have HQ3 := Aside0.mk hQ; clear hF hQ) | (go_at_call 69; refine (tabTold HL.out ⟨HF3.out, HQ3.out, HS.out.at (i := 0) rfl, HS.out.at (i := 1) rfl⟩).mono ?_; rintro e_ w1 ⟨B, b, rfl, hs⟩; replace HS := sN1 HS hs; clear hs) | ((with_reducible refine gate_store (t := 26) (p := 4) rfl ?_); refine stL HS 5 0 #[.int .i64 (resO d n (powO d n (some l) kk)).1, .int .i64 (resO d n (powO d n (some l) kk)).2.1, .slice B (resO d n (powO d n (some l) kk)).2.2.1.length b] rfl rfl rfl rfl rfl ?_; clear HS; intro w1 HS))
      refine bodyPost_ret (results_cell_tmp_row rfl _ _ g_r 26 #[.int .i64 (resO d n (powO d n (some l) kk)).1, .int .i64 (resO d n (powO d n (some l) kk)).2.1, .slice B (resO d n (powO d n (some l) kk)).2.2.1.length b] (0, 0) _ rfl (HS.out.at (i := 5) rfl) Try.underlying26 rfl (by kernel_rfl)) rfl ?_
      exact ⟨B, b, rfl, HS.out.sel [0] (by decide)⟩
end Go.Proofs.Ytibjkjhpfmmjoaa.H



namespace Go.Proofs.Ytibjkjhpfmmjoaa.M
set_option linter.unusedVariables false
theorem powR_cases (d n : Int) (x : Ts) (k : Int) : (∃ p, isS d n x = true ∧ 0 ≤ k ∧ k ≤ 12 ∧ powO d.toNat n.toNat (some x) k.toNat = some p ∧ powR d n x k = (d, n, p, 0) ∧ isS d n p = true) ∨ ∃ c, c ≠ 0 ∧ powR d n x k = noS c := by
  unfold powR
  by_cases h : isS d n x = true
  · rw [if_pos h]
    by_cases hk : inR k 0 12 = true
    · rw [if_pos hk]
      obtain ⟨_, _, h9⟩ := lev_nat (isS_l h)
      have hk' := (inR_iff _ _ _).1 hk
      rcases resO_cases (isS_l h) (o := powO d.toNat n.toNat (some x) k.toNat) fun p hp => pow_ts h9 hp with ⟨p, e1, e2, e3⟩ | ⟨e1, e2⟩
      · exact .inl ⟨p, h, hk'.1, hk'.2, e1, e2, e3⟩
      · exact .inr ⟨3, by decide, e2⟩
    · rw [if_neg hk]; exact .inr ⟨2, by decide, rfl⟩
  · rw [if_neg h]; exact .inr ⟨1, by decide, rfl⟩
theorem powR_next {d n : Int} {x p : Ts} {k : Int} (h : powR d n x k = (d, n, p, 0)) (hk : k < 12) : isS d n x = true ∧ isS d n p = true ∧ powR d n x (k + 1) = mulR d n p d n x := by
  rcases powR_cases d n x k with ⟨q, h1, h2, h3, h4, h5, h6⟩ | ⟨c, hc, e⟩
  · rw [h] at h5
    obtain rfl : p = q := by injection h5 with _ h5; injection h5 with _ h5; injection h5
    refine ⟨h1, h6, ?_⟩
    rw [mulR_same h6 h1]
    unfold powR
    rw [if_pos h1, if_pos ((inR_iff _ _ _).2 ⟨by omega, by omega⟩)]
    have e : (k + 1).toNat = k.toNat + 1 := by omega
    rw [e, powO, h4]
    rfl
  · rw [h] at e
    exact absurd (congrArg (·.2.2.2) e).symm hc
end Go.Proofs.Ytibjkjhpfmmjoaa.M

namespace Go.Proofs.Ytibjkjhpfmmjoaa.H
open Go.RowKit Go.Proofs.YtibjkjhpfmmjoaaW.PrintWords Go.Proofs.YtibjkjhpfmmjoaaW.PrintLast Go.Proofs.YtibjkjhpfmmjoaaW.PrintMore Go.Proofs.Ytibjkjhpfmmjoaa.M
attribute [local go_sem] max2_int min2_int max_two min_two max_three min_three max_four min_four
set_option linter.unusedVariables false
set_option linter.unusedSimpArgs false
set_option maxRecDepth 100000
abbrev srcB (g : Nat) (A : Option Addr) (n c : Nat) (k : Nat) (h : Int) : As := bx g 98 #[.slice A n c, .int .i64 (k : Int), .int .u64 h]
def Code (w : World) (g : Nat) (A : Option Addr) (n : Nat) : Prop := ∀ i, i < n → ∃ (ad : Addr) (x : Int), A = some ad ∧ ad.block ≠ g ∧ w.cell? (ad.add i) = some (.int .u8 x) ∧ 0 ≤ x ∧ x < 256
theorem add_blk (a : Addr) (i : Nat) : (a.add i).block = a.block := by unfold Addr.add; split <;> rfl
theorem cell_heap {w W : World} {a : Addr} (h : W.heap[a.block]? = w.heap[a.block]?) : W.cell? a = w.cell? a := by
  unfold World.cell?
  rw [h]
theorem Mod.keep {w W : World} {S : Nat → Prop} {L : List As} (h : Mod w W S L) {a : Addr} {v : Value} (hc : w.cell? a = some v) (hS : ¬ S a.block) : W.cell? a = some v :=
  (cell_heap (h.block _ (World.block_lt_of_cell? w _ hc) hS)).trans hc
theorem source_bound (z : Int) : 0 ≤ wrap64 (bits BinOp.and IntKind.u64 (IntKind.u64.wrap z / 2147483648) 1073741823) ∧ wrap64 (bits BinOp.and IntKind.u64 (IntKind.u64.wrap z / 2147483648) 1073741823) ≤ 1073741823 := by
  have h0 : 0 ≤ IntKind.u64.wrap z ∧ IntKind.u64.wrap z < 18446744073709551616 := by rw [IntKind.wrap_u64]; omega
  have h64 : (2 : Int) ^ 64 = 18446744073709551616 := by decide
  have h1 := bits_mask .u64 64 (by decide) (fun n a b => IntWalk.u64_in n ⟨a, by rw [h64] at b; omega⟩) 30 (by decide) (IntKind.u64.wrap z / 2147483648) (by omega) (by rw [h64]; omega)
  rw [show ((2 : Int) ^ 30 - 1) = 1073741823 by decide, show ((2 : Int) ^ 30) = 1073741824 by decide] at h1
  rw [h1]
  have h2 : 0 ≤ IntKind.u64.wrap z / 2147483648 % 1073741824 ∧ IntKind.u64.wrap z / 2147483648 % 1073741824 < 1073741824 := by omega
  rw [wrap_id (by omega) (by omega)]
  omega
theorem tmod_bound {a n : Int} (ha : 0 ≤ a) (hn : 1 ≤ n) : 0 ≤ Int.tmod a n ∧ Int.tmod a n < n := ⟨Int.tmod_nonneg _ ha, Int.tmod_lt_of_pos _ (by omega)⟩
theorem Code.mod {w W : World} {g n : Nat} {A : Option Addr} {L : List As} {S : Nat → Prop} (h : Code w g A n) (HS : Mod w W S L) (hS : ∀ k, S k → k = g) : Code W g A n := fun i hi => by
  obtain ⟨ad, x, h1, h2, h3, h4⟩ := h i hi
  refine ⟨ad, x, h1, h2, ?_, h4⟩
  rw [cell_heap (w := w) (HS.block _ (World.block_lt_of_cell? w _ h3) (fun hk => h2 (by rw [← add_blk ad i]; exact hS _ hk)))]
  exact h3
theorem ki_at {w : World} {k : IntKind} {A : Option Addr} {n : Nat} {l : List Int} (h : (Kd.int k).C w A n l) {i : Nat} {a : Int} (hi : l[i]? = some a) : ∃ ad, A = some ad ∧ w.cell? (ad.add i) = some (.int k a) := by
  obtain ⟨h1, h2⟩ := List.getElem?_eq_some_iff.1 hi
  have hln : l.length = n := h.1
  obtain ⟨ad, c, hA, hl, hK, hc⟩ := Kd.C_get h 0 (i : Int) (by omega) (by omega)
  simp only [Int.toNat_natCast] at hc hK
  have hK' : c = [.int k (l.getD i 0)] := hK
  subst hK'
  have := hc 0 _ rfl
  rw [List.getD_eq_getElem?_getD, hi] at this
  exact ⟨ad, hA, by rwa [show (Kd.int k).sz = 1 from rfl, Nat.mul_one, Nat.add_zero] at this⟩
theorem Mod.ge {w W : World} {L : List As} (h : Mod w W No L) {i g t : Nat} {cs : Array Value} (hi : L[i]? = some (bx g t cs)) : w.heap.size ≤ g :=
  ((h.all _ (List.mem_of_getElem? hi)).2 g rfl).elim (fun h => h.elim) id
theorem Code.of {w W : World} {L : List As} {A : Option Addr} {xs : List Int} (HS : Mod w W No L) {i g t : Nat} {cs : Array Value} (hi : L[i]? = some (bx g t cs)) (hr : (Kd.int .u8).C w A xs.length xs) (hx : ∀ x ∈ xs, 0 ≤ x ∧ x < 256) : Code W g A xs.length := fun j hj => by
  have hj' : xs[j]? = some xs[j] := List.getElem?_eq_getElem hj
  obtain ⟨ad, h1, h2⟩ := ki_at hr hj'
  have h3 := HS.ge hi
  have h4 : (ad.add j).block < w.heap.size := World.block_lt_of_cell? w _ h2
  exact ⟨ad, xs[j], h1, fun e => by rw [← e] at h3; rw [add_blk] at h4; omega, HS.old h2, hx _ (List.getElem_mem hj)⟩
set_option maxHeartbeats 8000000 in
theorem specFrom (A : Option Addr) (c : Nat) (xs : List Int) (w : World) (hr : (Kd.int .u8).C w A xs.length xs) (hl : xs.length ≤ 1048576) :
    Calls Try.prog 51 #[.slice A xs.length c] w fun e w' => ∃ (g : Nat) (h : Int), e = .returned (.pointer (some ⟨g, 0, none⟩)) ∧ Sep w w' [srcB g A xs.length c 0 h] := by
  have HR := Aside0.mk hr
  have HS := Aside0.mk (Sep.refl w)
  clear hr
  go_enter Try.func51, Try.ntmps51
  go_wp2_with (first | ((with_reducible refine gate_dst (N := 11) rfl ?_); refine bxL 98 #[(.slice A xs.length c), (.int .i64 0), (.int .u64 _)] HS ?_; clear HS; intro g_s w1 hg_s HS))
  go_loopw [4] (fun q w' => ∃ (i : Nat) (h : Int), i ≤ xs.length ∧ q = .int .i64 (i : Int) ∧ Aside0 (Mod w w' No [bx g_s 98 #[.slice A xs.length c, .int .i64 0, .int .u64 h]])) (fun q _ => xs.length - (intOf q).toNat)
  case atStart => exact ⟨0, _, by omega, rfl, HS⟩
  case round =>
    clear HS
    obtain ⟨i, h, hi, rfl, HS⟩ := hrel
    by_cases hlt : i < xs.length
    · obtain ⟨x, hx⟩ : ∃ x, xs[i]? = some x := ⟨_, List.getElem?_eq_getElem hlt⟩
      obtain ⟨ad, ea, h_⟩ := ki_at HR.out hx
      have HX := Aside0.mk h_
      cases ea
      clear h_ hx
      by_cases h4 : i < 4096
      · skip
        go_wp2
        replace HS := sD HS
        refine ps (.p 0 (.p 1 (.p 2 (.p 3 (.p 6 (.p 7 (.p 8 (.t 4 (.p 5 (.t 9 (.p 10 (.p 11 (.p 12 (.p 13 (.p 14 (.d 15 .done)))))))))))))))) (fun w' => w'.cell? ⟨g_s, 2, none⟩ = some (.int .u64 h) ∧ w'.cell? (ad.add i) = some (.int .u8 x)) [15] ⟨HS.out.c 0 2 (v := .int .u64 h) rfl rfl, HS.out.old HX.out⟩ (fun hHeld => ?_)
        repeat (first | ((with_reducible refine gate_p ?_); refine rp rfl rfl ?_) | ((with_reducible refine gate_t ?_); refine rt rfl rfl hHeld ?_))
        refine run_d rfl (fun K hK => ?_)
        refine st1 HS 0 2 #[.slice (some ad) xs.length c, .int .i64 0, (.int .u64 _)] rfl rfl rfl rfl rfl ?_
        clear HS
        intro w1 HS
        refine goD hK rfl ?_
        clear hK K
        refine run_done ?_
        clear hHeld
        go_wp2
        go_roundw
        case rel => exact ⟨i + 1, _, by omega, by go_num, HS⟩
        case measure => simp [intOf]; omega
      · skip
        go_wp2
        go_ret
        exact ⟨g_s, h, rfl, HS.out⟩
    · obtain rfl : i = xs.length := by omega
      go_wp2
      go_ret
      exact ⟨g_s, h, rfl, HS.out⟩
set_option maxHeartbeats 8000000 in
theorem specNext (g : Nat) (A : Option Addr) (c m k : Nat) (h n : Int) (w : World) (ho : (srcB g A m c k h).I w) (hcd : Code w g A m) (hk : k ≤ m) (hm : m ≤ 1048576) (hn : n ≤ 4611686018427387904) :
    Calls Try.prog 57 #[.pointer (some ⟨g, 0, none⟩), .int .i64 n] w fun e w' => ∃ (r : Int) (k' : Nat) (h' : Int), e = .returned (.int .i64 r) ∧ k' ≤ m ∧ (1 ≤ n → 0 ≤ r ∧ r < n) ∧ (n < 1 → r = 0) ∧ Mod w w' (fun b => b = g) [srcB g A m c k' h'] := by
  have HS := Aside0.mk (Mod.own1 ho)
  have HC := Aside0.mk hcd
  clear ho hcd
  by_cases h1 : n < 1
  · skip
    go_enter Try.func57, Try.ntmps57
    go_wp2
    go_ret
    exact ⟨0, k, h, rfl, hk, fun h => by omega, fun _ => rfl, HS.out⟩
  · skip
    go_enter Try.func57, Try.ntmps57
    have f1_ := HS.out.c 0 2 (v := .int .u64 h) rfl rfl
    go_wp2_with (first | ((with_reducible refine gate_store (t := 96) (p := 16) rfl ?_); refine stL HS 0 2 #[.slice A m c, .int .i64 (k : Int), (.int .u64 _)] rfl rfl rfl rfl rfl ?_; clear HS f1_; intro w1 HS; have f1_ := HS.out.c 0 2 (v := (.int .u64 _)) rfl rfl))
    have hB := source_bound (IntKind.u64.wrap (h * 6364136223846793005) + 1442695040888963407)
    obtain ⟨X, hX⟩ : ∃ X, X = wrap64 (bits BinOp.and IntKind.u64 (IntKind.u64.wrap (IntKind.u64.wrap (h * 6364136223846793005) + 1442695040888963407) / 2147483648) 1073741823) := ⟨_, rfl⟩
    rw [← hX] at hB ⊢
    clear hX
    obtain ⟨H, hH⟩ : ∃ H, H = IntKind.u64.wrap (IntKind.u64.wrap (h * 6364136223846793005) + 1442695040888963407) := ⟨_, rfl⟩
    rw [← hH] at HS f1_ ⊢
    clear hH
    obtain ⟨hX0, hX1⟩ := hB
    by_cases hlt : k < m
    · obtain ⟨ad, x, ea, hne, hcell, hx0, hx1⟩ := HC.out k hlt
      have HX := Aside0.mk hcell
      have HNE := Aside0.mk (show ¬ (ad.add k).block = g by rw [add_blk]; exact hne)
      cases ea
      clear hcell hne
      clear f1_
      go_wp2
      replace HS := sD HS
      refine ps (.p 0 (.p 1 (.p 2 (.p 4 (.p 5 (.p 6 (.t 3 (.t 7 (.p 8 (.p 9 .done)))))))))) (fun w' => w'.cell? ⟨g, 1, none⟩ = some (.int .i64 (k : Int)) ∧ w'.cell? ⟨g, 0, none⟩ = some (.slice (some ad) m c)) [] ⟨HS.out.c 0 1 (v := .int .i64 (k : Int)) rfl rfl, HS.out.c 0 0 (v := .slice (some ad) m c) rfl rfl⟩ (fun hHeld => ?_)
      repeat (first | ((with_reducible refine gate_p ?_); refine rp rfl rfl ?_) | ((with_reducible refine gate_t ?_); refine rt rfl rfl hHeld ?_))
      refine run_done ?_
      clear hHeld
      go_wp2
      replace HS := sD HS
      refine ps (.p 0 (.p 1 (.p 2 (.p 3 (.p 5 (.p 6 (.p 7 (.t 4 (.t 8 (.p 9 (.t 10 (.p 11 (.p 12 (.p 13 .done)))))))))))))) (fun w' => w'.cell? ⟨g, 0, none⟩ = some (.slice (some ad) m c) ∧ w'.cell? ⟨g, 1, none⟩ = some (.int .i64 (k : Int)) ∧ w'.cell? (ad.add k) = some (.int .u8 x)) [] ⟨HS.out.c 0 0 (v := .slice (some ad) m c) rfl rfl, HS.out.c 0 1 (v := .int .i64 (k : Int)) rfl rfl, HS.out.keep HX.out HNE.out⟩ (fun hHeld => ?_)
      repeat (first | ((with_reducible refine gate_p ?_); refine rp rfl rfl ?_) | ((with_reducible refine gate_t ?_); refine rt rfl rfl hHeld ?_))
      refine run_done ?_
      clear hHeld
      have f1_ := HS.out.c 0 1 (v := .int .i64 (k : Int)) rfl rfl
      go_wp2_with (first | ((with_reducible refine gate_store (t := 3) (p := 54) rfl ?_); refine stL HS 0 1 #[.slice (some ad) m c, (.int .i64 ((k + 1 : Nat) : Int)), .int .u64 H] rfl rfl rfl rfl rfl ?_; clear HS f1_; intro w1 HS))
      go_ret
      refine ⟨_, k + 1, H, rfl, by omega, fun _ => ?_, fun h => absurd h (by omega), HS.out⟩
      rw [wrap_id (x := x) (by omega) (by omega), wrap_id (x := X + x) (by omega) (by omega)]
      first | exact tmod_bound (by omega) (by omega) | exact ⟨Int.emod_nonneg _ (by omega), Int.emod_lt_of_pos _ (by omega)⟩
    · skip
      clear f1_
      go_wp2
      replace HS := sD HS
      refine ps (.p 0 (.p 1 (.p 2 (.p 4 (.p 5 (.p 6 (.t 3 (.t 7 (.p 8 (.p 9 .done)))))))))) (fun w' => w'.cell? ⟨g, 1, none⟩ = some (.int .i64 (k : Int)) ∧ w'.cell? ⟨g, 0, none⟩ = some (.slice A m c)) [] ⟨HS.out.c 0 1 (v := .int .i64 (k : Int)) rfl rfl, HS.out.c 0 0 (v := .slice A m c) rfl rfl⟩ (fun hHeld => ?_)
      repeat (first | ((with_reducible refine gate_p ?_); refine rp rfl rfl ?_) | ((with_reducible refine gate_t ?_); refine rt rfl rfl hHeld ?_))
      refine run_done ?_
      clear hHeld
      go_wp2
      go_ret
      refine ⟨_, k, H, rfl, by omega, fun _ => ?_, fun h => absurd h (by omega), HS.out⟩
      skip
      first | exact tmod_bound (by omega) (by omega) | exact ⟨Int.emod_nonneg _ (by omega), Int.emod_lt_of_pos _ (by omega)⟩
abbrev rowI (A : Option Addr) (c : Nat) (l : List Int) : As := rw' (Kd.int .i64) rfl 2 (.slice A l.length c) l
theorem Mod.disj {w W : World} {S : Nat → Prop} {L : List As} (h : Mod w W S L) {i j : Nat} {a b : As} (hi : L[i]? = some a) (hj : L[j]? = some b) (hij : i < j) : ∀ k, a.S k → b.S k → False := by
  obtain ⟨h1, rfl⟩ := List.getElem?_eq_some_iff.1 hi
  obtain ⟨h2, rfl⟩ := List.getElem?_eq_some_iff.1 hj
  exact List.pairwise_iff_getElem.1 h.dis i j h1 h2 hij
theorem rowCell {w W : World} {g b : Nat} {S : Nat → Prop} {L : List As} {ad : Addr} {l : List Int} (M : Mod w W S L) (hr : (rowI (some ad) b l).I w) (hS : ∀ k, S k → k = g) (hne : ∀ k, (rowI (some ad) b l).S k → k ≠ g) {i : Nat} {x : Int} (hx : l[i]? = some x) : W.cell? (ad.add i) = some (.int .i64 x) := by
  have h1 : (rowI (some ad) b l).I W := (rowI (some ad) b l).mv (fun k hk => M.block k ((rowI (some ad) b l).lt hr k hk) (fun h => hne k hk (hS k h))) hr
  obtain ⟨ad', ea, hc⟩ := ki_at (Kd.R_reads' h1).2.2 hx
  cases ea
  exact hc
set_option maxHeartbeats 8000000 in
theorem specPick (g : Nat) (A : Option Addr) (c m k : Nat) (h : Int) (B : Option Addr) (b : Nat) (l : List Int) (w : World) (ho : (srcB g A m c k h).I w) (hcd : Code w g A m) (hk : k ≤ m) (hm : m ≤ 1048576) (hr : (rowI B b l).I w) (hne : ∀ k, (rowI B b l).S k → k ≠ g) (hl0 : 1 ≤ l.length) (hl : l.length ≤ 1000) :
    Calls Try.prog 74 #[.pointer (some ⟨g, 0, none⟩), .slice B l.length b] w fun e w' => ∃ (r : Int) (k' : Nat) (h' : Int), e = .returned (.int .i64 r) ∧ k' ≤ m ∧ r ∈ l ∧ Mod w w' (fun b => b = g) [srcB g A m c k' h'] := by
  obtain ⟨ad, ea, h_⟩ := ki_at (Kd.R_reads' hr).2.2 (show l[0]? = some l[0] from List.getElem?_eq_getElem (by omega))
  clear h_
  cases ea
  have HS := Aside0.mk (Mod.own1 ho)
  have HC := Aside0.mk hcd
  have HR := Aside0.mk hr
  have HNE := Aside0.mk hne
  have HN := Aside0.mk (fun W k1 k2 => specNext g A c m k h (l.length : Int) W k1 k2 hk hm (by omega))
  clear ho hcd hr hne
  go_enter Try.func74, Try.ntmps74
  go_wp2_with (first | (go_at_call 57; refine (HN.out _ (HS.out.at (i := 0) rfl) (HC.out.mod HS.out (fun _ h => h))).mono ?_; rintro e_ w1 ⟨r, k1, h1, rfl, hk1, hr1, hr2, hs⟩; replace HS : Aside0 (Mod _ _ _ [_]) := sM1 HS 0 [] rfl hs; clear hs; obtain ⟨hr3, hr4⟩ := hr1 (by omega); clear hr1 hr2; obtain ⟨i, rfl⟩ : ∃ i : Nat, r = i := ⟨r.toNat, by omega⟩; obtain ⟨x, hx⟩ : ∃ x, l[i]? = some x := ⟨_, List.getElem?_eq_getElem (by omega)⟩; have HX := Aside0.mk hx; clear hx; have hil : i < l.length := (by omega); clear hr3 hr4; have f1_ := rowCell HS.out HR.out (fun _ h => h) HNE.out HX.out))
  go_ret
  exact ⟨x, k1, h1, rfl, hk1, List.mem_of_getElem? HX.out, HS.out⟩
end Go.Proofs.Ytibjkjhpfmmjoaa.H



namespace Go.Proofs.Ytibjkjhpfmmjoaa.H
open Go.RowKit Go.Proofs.YtibjkjhpfmmjoaaW.PrintWords Go.Proofs.YtibjkjhpfmmjoaaW.PrintLast Go.Proofs.YtibjkjhpfmmjoaaW.PrintMore Go.Proofs.Ytibjkjhpfmmjoaa.M
attribute [local go_sem] max2_int min2_int max_two min_two max_three min_three max_four min_four
set_option linter.unusedVariables false
set_option linter.unusedSimpArgs false
set_option maxRecDepth 100000
theorem ki_M (x : Int) (W : World) (base : Nat) (ok : Nat → Prop) : (Kd.int .i64).M W base ok x [.int .i64 x] := rfl
theorem reps_ints (W : World) (base : Nat) (ok : Nat → Prop) : ∀ l : List Int, Reps ((Kd.int .i64).M W base ok) (Kd.int .i64).sz l (l.map (Value.int .i64))
  | [] => Reps.none _ _
  | x :: l => Reps.one (ki_M x W base ok) (reps_ints W base ok l)
set_option maxHeartbeats 8000000 in
theorem specNear (g : Nat) (A : Option Addr) (c m k : Nat) (h n : Int) (w : World) (ho : (srcB g A m c k h).I w) (hcd : Code w g A m) (hk : k ≤ m) (hm : m ≤ 1048576) (hn0 : 0 ≤ n) (hn : n ≤ 1000000) :
    Calls Try.prog 75 #[.pointer (some ⟨g, 0, none⟩), .int .i64 n] w fun e w' => ∃ (r : Int) (k' : Nat) (h' : Int), e = .returned (.int .i64 r) ∧ k' ≤ m ∧ (-4611686018427387904 ≤ r ∧ r ≤ 1099511627776) ∧ Mod w w' (fun b => b = g) [srcB g A m c k' h'] := by
  have HS := Aside0.mk (Mod.own1 ho)
  have HC := Aside0.mk hcd
  have HN1 := Aside0.mk (fun W k1 k2 => specNext g A c m k h 14 W k1 k2 hk hm (by omega))
  have HN2 := Aside0.mk (fun k h W k1 k2 hk => specNext g A c m k h (n + 1) W k1 k2 hk hm (by omega))
  have HP := Aside0.mk (fun k h B b W k1 k2 hk k3 k4 => specPick g A c m k h B b [-1, n + 1, 1099511627776, -4611686018427387904] W k1 k2 hk hm k3 k4 (by simp) (by simp))
  clear ho hcd
  go_enter Try.func75, Try.ntmps75
  go_wp2_with (first | (go_at_call 57; refine (HN1.out _ (HS.out.at (i := 0) rfl) (HC.out.mod HS.out (fun _ h => h))).mono ?_; rintro e_ w1 ⟨r, k1, h1, rfl, hk1, hr1, hr2, hs⟩; replace HS : Aside0 (Mod _ _ _ [_]) := sM1 HS 0 [] rfl hs; clear hs; clear hr1 hr2; refine Hid.out ?_))
  refine Lib.hid ?_
  by_cases hr0 : r = 0
  · have hd0 : (r == 0) = true := by rw [hr0]; rfl
    clear hr0
    go_wp2_with (first | ((with_reducible refine gate_dst (N := 11) rfl ?_); refine wpList_stp (fun K hK => ?_); refine stp_lit (Kd.int .i64) rfl 2 (by rfl) HS (xs := [-1, n + 1, 1099511627776, -4611686018427387904]) (inner := [.int .i64 (-1), .int .i64 (n + 1), .int .i64 1099511627776, .int .i64 (-4611686018427387904)]) (by first | (go_simp; done) | (go_simp; rfl)) (fun W base ok => reps_ints W base ok _) (by simp) ?_; clear HS; intro A_l c_l w1 HS; refine hK _ _ ?_; clear hK K) | (go_at_call 74; refine (HP.out k1 h1 A_l c_l _ (HS.out.at (i := 1) rfl) (HC.out.mod HS.out (fun _ h => h)) hk1 (HS.out.at (i := 0) rfl) (fun q h1 h2 => HS.out.disj (i := 0) (j := 1) rfl rfl (by decide) q h1 h2)).mono ?_; rintro e_ w1 ⟨r2, k2, h2, rfl, hk2, hr3, hs⟩; replace HS : Aside0 (Mod _ _ _ [_, _]) := sM1 HS 1 [0] rfl hs; clear hs))
    go_ret
    refine ⟨r2, k2, h2, rfl, hk2, ?_, HS.out.sel [0] (by decide)⟩
    simp only [List.mem_cons, List.not_mem_nil, or_false] at hr3
    omega
  · have hd0 : (r == 0) = false := by simpa using hr0
    clear hr0
    go_wp2_with (first | (go_at_call 57; refine (HN2.out k1 h1 _ (HS.out.at (i := 0) rfl) (HC.out.mod HS.out (fun _ h => h)) hk1).mono ?_; rintro e_ w1 ⟨r2, k2, h2, rfl, hk2, hr3, hr4, hs⟩; replace HS : Aside0 (Mod _ _ _ [_]) := sM1 HS 0 [] rfl hs; clear hs))
    go_ret
    refine ⟨r2, k2, h2, rfl, hk2, ?_, HS.out⟩
    have := hr3 (by omega)
    omega
end Go.Proofs.Ytibjkjhpfmmjoaa.H



namespace Go.Proofs.Ytibjkjhpfmmjoaa.H
open Go.RowKit Go.Proofs.YtibjkjhpfmmjoaaW.PrintWords Go.Proofs.YtibjkjhpfmmjoaaW.PrintLast Go.Proofs.YtibjkjhpfmmjoaaW.PrintMore Go.Proofs.Ytibjkjhpfmmjoaa.M
attribute [local go_sem] max2_int min2_int max_two min_two max_three min_three max_four min_four
set_option linter.unusedVariables false
set_option linter.unusedSimpArgs false
set_option maxRecDepth 100000
theorem Mod.sx {w W : World} {S : Nat → Prop} {L : List As} (h : Mod w W S L) (i : Nat) {ad : Addr} {c : Nat} {u : List ByteArray} (hi : L[i]? = some (rowS (some ad) c u)) {j : Nat} {s : ByteArray} (hj : u[j]? = some s) : W.cell? (ad.add j) = some (.string s) := by
  obtain ⟨h1, h2⟩ := List.getElem?_eq_some_iff.1 hj
  obtain ⟨ad', e, h0⟩ := str_at (h.reads i hi) j h1
  cases e
  rwa [List.getD_eq_getElem?_getD, hj] at h0
end Go.Proofs.Ytibjkjhpfmmjoaa.H


namespace Go.Proofs.Ytibjkjhpfmmjoaa.H
open Go.RowKit Go.Proofs.YtibjkjhpfmmjoaaW.PrintWords Go.Proofs.YtibjkjhpfmmjoaaW.PrintLast Go.Proofs.YtibjkjhpfmmjoaaW.PrintMore Go.Proofs.Ytibjkjhpfmmjoaa.M
attribute [local go_sem] max2_int min2_int max_two min_two max_three min_three max_four min_four
set_option linter.unusedVariables false
set_option linter.unusedSimpArgs false
set_option maxRecDepth 100000
set_option maxHeartbeats 8000000 in
theorem specDrawFrac (g : Nat) (A : Option Addr) (c m k : Nat) (h : Int) (w : World) (ho : (srcB g A m c k h).I w) (hcd : Code w g A m) (hk : k ≤ m) (hm : m ≤ 1048576) :
    Calls Try.prog 138 #[.pointer (some ⟨g, 0, none⟩)] w fun e w' => ∃ (x y : Int) (k' : Nat) (h' : Int), e = .returned (.agg #[.int .i64 x, .int .i64 y]) ∧ k' ≤ m ∧ Mod w w' (fun b => b = g) [srcB g A m c k' h'] := by
  have HS := Aside0.mk (Mod.own1 ho)
  have HC := Aside0.mk hcd
  have HN := Aside0.mk (fun k h n W k1 k2 hk h1 => specNext g A c m k h n W k1 k2 hk hm h1)
  have HP := Aside0.mk (fun k h B b W k1 k2 hk k3 k4 => specPick g A c m k h B b [1, 1, 1, 2, 3, 4, 6] W k1 k2 hk hm k3 k4 (by decide) (by decide))
  clear ho hcd
  go_enter Try.func138, Try.ntmps138
  go_wp2_with (first | ((with_reducible refine gate_dst (N := 2) rfl ?_); refine bxL 34 #[(.int .i64 0), (.int .i64 0)] HS ?_; clear HS; intro g_r w1 hg_r HS) | (go_at_call 57; refine (HN.out k h 19 _ (HS.out.at (i := 1) rfl) (HC.out.mod (HS.out.sel [0] (by decide)) (fun _ h => h)) hk (by omega)).mono ?_; rintro e_ w1 ⟨x, k1, h1, rfl, hk1, hr1, hr2, hs⟩; replace HS : Aside0 (Mod _ _ _ [_, _]) := sM1 HS 1 [0] rfl hs; clear hs; obtain ⟨hx0, hx1⟩ := hr1 (by omega); clear hr1 hr2) | ((with_reducible refine gate_dst (N := 10) rfl ?_); refine wpList_stp (fun K hK => ?_); refine stp_lit (Kd.int .i64) rfl 2 (by rfl) HS (xs := [1, 1, 1, 2, 3, 4, 6]) (inner := [.int .i64 1, .int .i64 1, .int .i64 1, .int .i64 2, .int .i64 3, .int .i64 4, .int .i64 6]) (by first | (go_simp; done) | (go_simp; rfl)) (fun W base ok => reps_ints W base ok _) (by simp) ?_; clear HS; intro A_l c_l w1 HS; refine hK _ _ ?_; clear hK K) | (go_at_call 74; refine (HP.out k1 h1 A_l c_l _ (HS.out.at (i := 1) rfl) (HC.out.mod HS.out (fun _ h => h)) hk1 (HS.out.at (i := 0) rfl) (fun q h1 h2 => HS.out.disj (i := 0) (j := 1) rfl rfl (by decide) q h1 h2)).mono ?_; rintro e_ w1 ⟨y, k2, h2, rfl, hk2, hr, hs⟩; replace HS : Aside0 (Mod _ _ _ [_, _, _]) := sM1 HS 1 [0, 2] rfl hs; clear hs; obtain ⟨hy0, hy1⟩ : 1 ≤ y ∧ y ≤ 6 := (by simp only [List.mem_cons, List.not_mem_nil, or_false] at hr; omega); clear hr) | (go_at_call 139; refine (specFrac (x - 9) y _ (by omega) (by omega) (by omega) (by omega)).mono ?_; rintro e_ w1 ⟨rfl, hb⟩; replace HS := sB HS hb; clear hb) | ((with_reducible refine gate_dst (N := 3) rfl ?_); refine bxL 34 #[(.int .i64 0), (.int .i64 0)] HS ?_; clear HS; intro g_q w1 hg_q HS) | ((with_reducible refine gate_store (t := 34) (p := 3) rfl ?_); refine stL HS 0 0 #[.int .i64 (sfrac (frac (x - 9) y)).1.1, .int .i64 (sfrac (frac (x - 9) y)).1.2] rfl rfl rfl rfl rfl ?_; clear HS; intro w1 HS; have f1_ := HS.out.c 0 0 (v := .int .i64 (sfrac (frac (x - 9) y)).1.1) rfl rfl; have f2_ := HS.out.c 0 1 (v := .int .i64 (sfrac (frac (x - 9) y)).1.2) rfl rfl) | ((with_reducible refine gate_store (t := 34) (p := 2) rfl ?_); refine stL HS 3 0 #[.int .i64 (sfrac (frac (x - 9) y)).1.1, .int .i64 (sfrac (frac (x - 9) y)).1.2] rfl rfl rfl rfl rfl ?_; clear HS f1_ f2_; intro w1 HS))
  refine bodyPost_ret (results_cell_row rfl _ _ g_r 34 #[.int .i64 (sfrac (frac (x - 9) y)).1.1, .int .i64 (sfrac (frac (x - 9) y)).1.2] (0, 0) _ rfl (HS.out.at (i := 3) rfl) Try.underlying34 rfl (by kernel_rfl)) rfl ?_
  exact ⟨_, _, k2, h2, rfl, hk2, HS.out.sel [1] (by decide)⟩
set_option maxHeartbeats 8000000 in
theorem specLike (g : Nat) (A : Option Addr) (c m k : Nat) (h : Int) (w : World) (ho : (srcB g A m c k h).I w) (hcd : Code w g A m) (hk : k ≤ m) (hm : m ≤ 1048576) :
    Calls Try.prog 84 #[.pointer (some ⟨g, 0, none⟩)] w fun e w' => ∃ (d n : Int) (B : Option Addr) (b k' : Nat) (h' : Int), e = .returned (.agg #[.int .i64 d, .int .i64 n, .slice B 0 b]) ∧ 1 ≤ d ∧ d ≤ 3 ∧ 1 ≤ n ∧ n ≤ 6 ∧ k' ≤ m ∧ Mod w w' (fun b => b = g) [srcB g A m c k' h'] := by
  have HS := Aside0.mk (Mod.own1 ho)
  have HC := Aside0.mk hcd
  have HP := Aside0.mk (fun k h B b W k1 k2 hk k3 k4 => specPick g A c m k h B b [1, 2, 2, 2, 3] W k1 k2 hk hm k3 k4 (by decide) (by decide))
  have HP2 := Aside0.mk (fun k h B b (x : Int) W k1 k2 hk k3 k4 => specPick g A c m k h B b [1, 2, 2, 3, 3, 4, x] W k1 k2 hk hm k3 k4 (by simp) (by simp))
  clear ho hcd
  go_enter Try.func84, Try.ntmps84
  have tk1_ : True := trivial
  go_wp2_with (first | ((with_reducible refine gate_dst (N := 2) rfl ?_); refine bxL 26 #[(.int .i64 0), (.int .i64 0), (.slice none 0 0)] HS ?_; clear HS; intro g_r w1 hg_r HS) | ((with_reducible refine gate_dst (N := 5) rfl ?_); refine wpList_stp (fun K hK => ?_); refine stp_lit (Kd.int .i64) rfl 2 (by rfl) HS (xs := [1, 2, 2, 2, 3]) (inner := [.int .i64 1, .int .i64 2, .int .i64 2, .int .i64 2, .int .i64 3]) (by first | (go_simp; done) | (go_simp; rfl)) (fun W base ok => reps_ints W base ok _) (by simp) ?_; clear HS; intro A_l c_l w1 HS; refine hK _ _ ?_; clear hK K) | (go_at_call 74; clear tk1_; refine (HP.out k h A_l c_l _ (HS.out.at (i := 2) rfl) (HC.out.mod HS.out (fun _ h => h)) hk (HS.out.at (i := 0) rfl) (fun q h1 h2 => HS.out.disj (i := 0) (j := 2) rfl rfl (by decide) q h1 h2)).mono ?_; rintro e_ w1 ⟨d, k1, h1, rfl, hk1, hr, hs⟩; replace HS : Aside0 (Mod _ _ _ [_, _, _]) := sM1 HS 2 [0, 1] rfl hs; clear hs; obtain ⟨hd0, hd1⟩ : 1 ≤ d ∧ d ≤ 3 := (by simp only [List.mem_cons, List.not_mem_nil, or_false] at hr; omega); clear hr) | ((with_reducible refine gate_dst (N := 11) rfl ?_); refine wpList_stp (fun K hK => ?_); refine stp_lit (Kd.int .i64) rfl 2 (by rfl) HS (xs := [1, 2, 2, 3, 3, 4, 7 - d]) (inner := [.int .i64 1, .int .i64 2, .int .i64 2, .int .i64 3, .int .i64 3, .int .i64 4, .int .i64 (7 - d)]) (by first | (go_simp; done) | (go_simp; rfl)) (fun W base ok => reps_ints W base ok _) (by simp) ?_; clear HS; intro A_l2 c_l2 w1 HS; refine hK _ _ ?_; clear hK K) | (go_at_call 74; refine (HP2.out k1 h1 A_l2 c_l2 (7 - d) _ (HS.out.at (i := 1) rfl) (HC.out.mod HS.out (fun _ h => h)) hk1 (HS.out.at (i := 0) rfl) (fun q h1 h2 => HS.out.disj (i := 0) (j := 1) rfl rfl (by decide) q h1 h2)).mono ?_; rintro e_ w1 ⟨n, k2, h2, rfl, hk2, hr, hs⟩; replace HS : Aside0 (Mod _ _ _ [_, _, _, _]) := sM1 HS 1 [0, 2, 3] rfl hs; clear hs; obtain ⟨hn0, hn1⟩ : 1 ≤ n ∧ n ≤ 6 := (by simp only [List.mem_cons, List.not_mem_nil, or_false] at hr; omega); clear hr) | ((with_reducible refine gate_dst (N := 13) rfl ?_); refine wpList_stp (fun K hK => ?_); refine stp_lit (KT) rfl 38 (by rfl) HS (xs := ([] : Ts)) (inner := []) (by first | (go_simp; done) | (go_simp; rfl)) (fun W base ok => Reps.none _ _) (by simp) ?_; clear HS; intro A_o c_o w1 HS; refine hK _ _ ?_; clear hK K) | ((with_reducible refine gate_store (t := 26) (p := 2) rfl ?_); refine stL HS 4 0 #[(.int .i64 d), (.int .i64 n), (.slice A_o (([] : Ts)).length c_o)] rfl rfl rfl rfl rfl ?_; clear HS; intro w1 HS))
  refine bodyPost_ret (results_cell_row rfl _ _ g_r 26 #[(.int .i64 d), (.int .i64 n), (.slice A_o (([] : Ts)).length c_o)] (0, 0) _ rfl (HS.out.at (i := 4) rfl) Try.underlying26 rfl (by kernel_rfl)) rfl ?_
  exact ⟨d, n, A_o, c_o, k2, h2, rfl, hd0, hd1, hn0, hn1, hk2, HS.out.sel [1] (by decide)⟩
set_option maxHeartbeats 8000000 in
theorem specFit (d n : Int) (A : Option Addr) (m c : Nat) (w : World) (hd0 : 1 ≤ d) (hd1 : d ≤ 3) (hn0 : 1 ≤ n) (hn1 : n ≤ 6) :
    Calls Try.prog 83 #[.agg #[.int .i64 d, .int .i64 n, .slice A m c]] w fun e w' => ∃ n' : Int, e = .returned (.agg #[.int .i64 d, .int .i64 n', .slice A m c]) ∧ 1 ≤ n' ∧ n' ≤ 5 ∧ (d = 3 → n' ≤ 4) ∧ Below w.heap.size w w' := by
  have HS := Aside0.mk (Sep.refl w)
  by_cases h3 : d = 3
  · subst h3
    go_enter Try.func83, Try.ntmps83
    go_wp2_with (first | ((with_reducible refine gate_dst (N := 1) rfl ?_); refine bxL 26 #[.int .i64 3, .int .i64 n, .slice A m c] HS ?_; clear HS; intro g_x w1 hg_x HS) | ((with_reducible refine gate_dst (N := 2) rfl ?_); refine bxL 26 #[(.int .i64 0), (.int .i64 0), (.slice none 0 0)] HS ?_; clear HS; intro g_r w1 hg_r HS; have f1_ := HS.out.c 1 1 (v := .int .i64 n) rfl rfl) | ((with_reducible refine gate_store (t := 2) (p := 6) rfl ?_); refine stL HS 1 1 #[.int .i64 3, (.int .i64 _), .slice A m c] rfl rfl rfl rfl rfl ?_; clear HS f1_; intro w1 HS; have f1_ := HS.out.c 1 0 (v := .int .i64 3) rfl rfl; have f2_ := HS.out.c 1 1 (v := (.int .i64 _)) rfl rfl) | ((with_reducible refine gate_store (t := 2) (p := 13) rfl ?_); refine stL HS 1 1 #[.int .i64 3, (.int .i64 _), .slice A m c] rfl rfl rfl rfl rfl ?_; clear HS f1_ f2_; intro w1 HS; have f1_ := HS.out.c 1 0 (v := .int .i64 3) rfl rfl; have f2_ := HS.out.c 1 1 (v := (.int .i64 _)) rfl rfl; have f3_ := HS.out.c 1 2 (v := .slice A m c) rfl rfl) | ((with_reducible refine gate_store (t := 26) (p := 2) rfl ?_); refine stL HS 0 0 #[.int .i64 3, (.int .i64 _), .slice A m c] rfl rfl rfl rfl rfl ?_; clear HS f1_ f2_ f3_; intro w1 HS))
    all_goals
      refine bodyPost_ret (results_cell_row rfl _ _ g_r 26 #[.int .i64 3, (.int .i64 _), .slice A m c] (0, 0) _ rfl (HS.out.at (i := 0) rfl) Try.underlying26 rfl (by kernel_rfl)) rfl ?_
      first | refine ⟨_, rfl, ?_, ?_, ?_, HS.out.below⟩ | refine ⟨_, rfl, ?_, ?_, HS.out.below⟩
      all_goals (try intro h_)
      all_goals (repeat' split)
      all_goals omega
  · have hb : (d == 3) = false := by simpa using h3
    go_enter Try.func83, Try.ntmps83
    go_wp2_with (first | ((with_reducible refine gate_dst (N := 1) rfl ?_); refine bxL 26 #[.int .i64 d, .int .i64 n, .slice A m c] HS ?_; clear HS; intro g_x w1 hg_x HS) | ((with_reducible refine gate_dst (N := 2) rfl ?_); refine bxL 26 #[(.int .i64 0), (.int .i64 0), (.slice none 0 0)] HS ?_; clear HS; intro g_r w1 hg_r HS; have f1_ := HS.out.c 1 1 (v := .int .i64 n) rfl rfl) | ((with_reducible refine gate_store (t := 2) (p := 6) rfl ?_); refine stL HS 1 1 #[.int .i64 d, (.int .i64 _), .slice A m c] rfl rfl rfl rfl rfl ?_; clear HS f1_; intro w1 HS; have f1_ := HS.out.c 1 0 (v := .int .i64 d) rfl rfl; have f2_ := HS.out.c 1 1 (v := (.int .i64 _)) rfl rfl; have f3_ := HS.out.c 1 2 (v := .slice A m c) rfl rfl) | ((with_reducible refine gate_store (t := 26) (p := 2) rfl ?_); refine stL HS 0 0 #[.int .i64 d, (.int .i64 _), .slice A m c] rfl rfl rfl rfl rfl ?_; clear HS f1_ f2_ f3_; intro w1 HS))
    all_goals
      refine bodyPost_ret (results_cell_row rfl _ _ g_r 26 #[.int .i64 d, (.int .i64 _), .slice A m c] (0, 0) _ rfl (HS.out.at (i := 0) rfl) Try.underlying26 rfl (by kernel_rfl)) rfl ?_
      first | refine ⟨_, rfl, ?_, ?_, ?_, HS.out.below⟩ | refine ⟨_, rfl, ?_, ?_, HS.out.below⟩
      all_goals (try intro h_)
      all_goals (repeat' split)
      all_goals omega
set_option maxHeartbeats 16000000 in
theorem specDrawOf (g : Nat) (A : Option Addr) (c m k : Nat) (h : Int) (d n : Nat) (B0 : Option Addr) (m0 c0 : Nat) (w : World) (ho : (srcB g A m c k h).I w) (hcd : Code w g A m) (hk : k ≤ m) (hm : m ≤ 1048576) (hd1 : 1 ≤ d) (hd : d ≤ 3) (hn : n ≤ 5) :
    Calls Try.prog 112 #[.pointer (some ⟨g, 0, none⟩), .agg #[.int .i64 (d : Int), .int .i64 (n : Int), .slice B0 m0 c0]] w fun e w' => ∃ (B : Option Addr) (b : Nat) (l : Ts) (k' : Nat) (h' : Int), e = .returned (.agg #[.int .i64 (d : Int), .int .i64 (n : Int), .slice B l.length b]) ∧ k' ≤ m ∧ bnd l = true ∧ l.length ≤ 100000 ∧ Mod w w' (fun b => b = g) [srcB g A m c k' h', rowT B b l] := by
  have HS := Aside0.mk (Mod.own1 ho)
  have HC := Aside0.mk hcd
  have HN := Aside0.mk (fun k h n W k1 k2 hk h1 => specNext g A c m k h n W k1 k2 hk hm h1)
  have HF := Aside0.mk (fun k h W k1 k2 hk => specDrawFrac g A c m k h W k1 k2 hk hm)
  have HWD := Aside0.mk (fun j X (h : j ≤ 5) => specWordsS d j X hd (by omega))
  have HWL := Aside0.mk (fun j (h : j ≤ 5) => wordsN_le (d := d) (n := j) hd (by omega))
  have HSZ := Aside0.mk (fun (j i : Nat) (s : ByteArray) (h : (wordsN d j)[i]? = some s) => (wordsN_size (List.mem_of_getElem? h) : s.size = j))
  clear ho hcd
  go_enter Try.func112, Try.ntmps112
  go_wp2_with (first | ((with_reducible refine gate_dst (N := 3) rfl ?_); refine bxL 26 #[.int .i64 (d : Int), .int .i64 (n : Int), .slice B0 m0 c0] HS ?_; clear HS; intro g_x w1 hg_x HS) | ((with_reducible refine gate_dst (N := 4) rfl ?_); refine bxL 26 #[(.int .i64 0), (.int .i64 0), (.slice none 0 0)] HS ?_; clear HS; intro g_r w1 hg_r HS; have f1_ := HS.out.c 1 0 (v := .int .i64 (d : Int)) rfl rfl; have f2_ := HS.out.c 1 1 (v := .int .i64 (n : Int)) rfl rfl; have f3_ := HS.out.c 1 2 (v := .slice B0 m0 c0) rfl rfl) | (go_at_call 62; refine (specEmpty d n B0 m0 c0 _).mono ?_; rintro e_ w1 ⟨B, b, rfl, hs⟩; replace HS := sN1 HS hs; clear hs f1_ f2_ f3_) | ((with_reducible refine gate_dst (N := 5) rfl ?_); refine bxL 26 #[(.int .i64 0), (.int .i64 0), (.slice none 0 0)] HS ?_; clear HS; intro g_q w1 hg_q HS) | ((with_reducible refine gate_store (t := 26) (p := 5) rfl ?_); refine stL HS 0 0 #[.int .i64 (d : Int), .int .i64 (n : Int), .slice B ([] : Ts).length b] rfl rfl rfl rfl rfl ?_; clear HS; intro w1 HS))
  go_loopw [6] (fun v w' => ∃ (j : Nat) (B : Option Addr) (b : Nat) (z : Ts) (k1 : Nat) (h1 : Int), j ≤ n + 1 ∧ v = .int .i64 (j : Int) ∧ k1 ≤ m ∧ z.length ≤ j * 6561 ∧ Aside0 (∀ t ∈ z, t.1.size ≤ 5) ∧ Aside0 (Mod w w' (srcB g A m c k h).S [bx g_q 26 #[.int .i64 (d : Int), .int .i64 (n : Int), .slice B z.length b], rowT B b z, bx g_r 26 #[(.int .i64 0), (.int .i64 0), (.slice none 0 0)], bx g_x 26 #[.int .i64 (d : Int), .int .i64 (n : Int), .slice B0 m0 c0], bx g 98 #[.slice A m c, .int .i64 (k1 : Int), .int .u64 h1]])) (fun v _ => n + 1 - (intOf v).toNat)
  case atStart => exact ⟨0, B, b, [], k, h, by omega, rfl, hk, by simp, ⟨fun t ht => by cases ht⟩, HS⟩
  case round =>
    clear HS
    obtain ⟨j, B, b, z, k1, h1, hj, rfl, hk1, hz, HZ, HS⟩ := hrel
    by_cases hlt : j ≤ n
    · have HWJ := Aside0.mk (fun X => HWD.out j X (by omega))
      have hul : (wordsN d j).length ≤ 6561 := HWL.out j (by omega)
      have HSJ := Aside0.mk (fun i s h => HSZ.out j i s h)
      obtain ⟨us, hus⟩ : ∃ us, us = wordsN d j := ⟨_, rfl⟩
      rw [← hus] at HWJ hul HSJ
      clear hus
      have f1_ := HS.out.c 3 1 (v := .int .i64 (n : Int)) rfl rfl
      have f2_ := HS.out.c 3 0 (v := .int .i64 (d : Int)) rfl rfl
      go_wp2_with (first | (go_at_call 118; refine (HWJ.out _).mono ?_; rintro e_ w1 ⟨B1, b1, rfl, hs⟩; replace HS := sN1 HS hs; clear hs f1_ f2_))
      go_loopw [8] (fun v w' => ∃ (i : Nat) (B : Option Addr) (b : Nat) (z : Ts) (k1 : Nat) (h1 : Int), i ≤ us.length ∧ v = .int .i64 (i : Int) ∧ k1 ≤ m ∧ z.length ≤ j * 6561 + i ∧ Aside0 (∀ t ∈ z, t.1.size ≤ 5) ∧ Aside0 (Mod w w' (srcB g A m c k h).S [rowS B1 b1 us, bx g_q 26 #[.int .i64 (d : Int), .int .i64 (n : Int), .slice B z.length b], rowT B b z, bx g_r 26 #[(.int .i64 0), (.int .i64 0), (.slice none 0 0)], bx g_x 26 #[.int .i64 (d : Int), .int .i64 (n : Int), .slice B0 m0 c0], bx g 98 #[.slice A m c, .int .i64 (k1 : Int), .int .u64 h1]])) (fun v _ => us.length - (intOf v).toNat)
      case atStart => exact ⟨0, B, b, z, k1, h1, by omega, rfl, hk1, by omega, HZ, HS⟩
      case round =>
        clear HS HZ
        obtain ⟨i, B, b, z, k1, h1, hi, rfl, hk1, hz, HZ, HS⟩ := hrel
        by_cases hlt2 : i < us.length
        · obtain ⟨ad, ea, h_⟩ := str_at (HS.out.reads 0 rfl) i hlt2
          clear h_
          cases ea
          obtain ⟨u, hu⟩ : ∃ s, us[i]? = some s := ⟨_, List.getElem?_eq_getElem hlt2⟩
          have HE := Aside0.mk hu
          have hus := HSJ.out i u hu
          have hu5 : u.size ≤ 5 := by omega
          clear hu hus
          obtain ⟨p, hp⟩ : ∃ p : Nat, p = us.length / 3 := ⟨_, rfl⟩
          have hp9 : p ≤ 6561 := by omega
          have hq3 : (us.length : Int) / 3 = (p : Int) := by omega
          clear hp
          by_cases h4 : 4 < us.length
          · have h4b : ((4 : Int) < (us.length : Int)) := by omega
            have tk2_ : True := trivial
            go_wp2_with (first | (go_at_call 57; clear tk2_; refine (HN.out k1 h1 ((p : Int) + 1) _ (HS.out.at (i := 5) rfl) (HC.out.mod (HS.out.sel [5] (by decide)) (fun _ h => h)) hk1 (by omega)).mono ?_; rintro e_ w1 ⟨r1, k2, h2, rfl, hk2, hr1, hr2, hs⟩; replace HS : Aside0 (Mod _ _ _ [_, _, _, _, _, _]) := sM1 HS 5 [0, 1, 2, 3, 4] rfl hs; clear hs; clear hr1 hr2; have hd_ : (0 < r1) ∨ ¬ (0 < r1) := (by omega); rcases hd_ with hr1_ | hr1_) | (go_at_call 57; refine (HN.out k2 h2 3 _ (HS.out.at (i := 0) rfl) (HC.out.mod (HS.out.sel [5] (by decide)) (fun _ h => h)) hk2 (by omega)).mono ?_; rintro e_ w1 ⟨q1, k3, h3, rfl, hk3, hr1, hr2, hs⟩; replace HS : Aside0 (Mod _ _ _ [_, _, _, _, _, _]) := sM1 HS 0 [1, 2, 3, 4, 5] rfl hs; clear hs; clear hr1 hr2; have hd_ : (q1 == 0) = true ∨ (q1 == 0) = false := (by cases (q1 == 0) <;> simp); rcases hd_ with hq1_ | hq1_) | (go_at_call 138; refine (HF.out k3 h3 _ (HS.out.at (i := 0) rfl) (HC.out.mod (HS.out.sel [5] (by decide)) (fun _ h => h)) hk3).mono ?_; rintro e_ w1 ⟨x1, y1, k4, h4, rfl, hk4, hs⟩; replace HS : Aside0 (Mod _ _ _ [_, _, _, _, _, _]) := sM1 HS 0 [1, 2, 3, 4, 5] rfl hs; clear hs; have hd_ : (x1 == 0) = true ∨ (x1 == 0) = false := (by cases (x1 == 0) <;> simp); rcases hd_ with hx1_ | hx1_) | ((with_reducible refine gate_dst (N := 9) rfl ?_); refine bxL 34 #[(.int .i64 0), (.int .i64 0)] HS ?_; clear HS; intro g_f w1 hg_f HS) | ((with_reducible refine gate_store (t := 34) (p := 9) rfl ?_); refine stL HS 0 0 #[.int .i64 x1, .int .i64 y1] rfl rfl rfl rfl rfl ?_; clear HS; intro w1 HS; have f1_ := HS.out.c 0 0 (v := .int .i64 x1) rfl rfl; have f2_ := HS.out.c 0 1 (v := .int .i64 y1) rfl rfl) | (go_at_call 108; refine (specZero _ _ _).mono ?_; rintro e_ w1 ⟨rfl, hb⟩; replace HS := sB HS hb; clear hb f1_ f2_))
            repeat (focus ((go_roundw; (case rel => first | exact ⟨i + 1, B, b, z, _, _, by omega, by go_num, by assumption, by omega, HZ, sX HS [1, 2, 3, 4, 5, 0]⟩ | exact ⟨i + 1, B, b, z, _, _, by omega, by go_num, by assumption, by omega, HZ, sX HS [2, 3, 4, 5, 6, 1]⟩); (case measure => simp [intOf]; omega)); done))
            replace HS := sD HS
            refine ps (.p 0 (.p 2 (.p 3 (.p 4 (.t 1 (.t 5 (.t 6 (.p 7 (.e 8 (.d 9 (.p 10 (.d 11 .done)))))))))))) (fun w' => w'.cell? ⟨g_q, 2, none⟩ = some (.slice B z.length b) ∧ w'.cell? (ad.add i) = some (.string u) ∧ w'.cell? ⟨g_f, 0, none⟩ = some (.int .i64 x1) ∧ w'.cell? ⟨g_f, 1, none⟩ = some (.int .i64 y1)) [9, 11] ⟨HS.out.c 3 2 (v := .slice B z.length b) rfl rfl, HS.out.sx 2 rfl HE.out, HS.out.c 0 0 (v := .int .i64 x1) rfl rfl, HS.out.c 0 1 (v := .int .i64 y1) rfl rfl⟩ (fun hHeld => ?_)
            repeat (first | ((with_reducible refine gate_p ?_); refine rp rfl rfl ?_) | ((with_reducible refine gate_t ?_); refine rt rfl rfl hHeld ?_))
            refine run_e rfl (fun K hK => ?_)
            refine stp_lit (KT) rfl 38 (by rfl) HS (xs := [((u, x1, y1) : Tm)]) (inner := [.string u, .int .i64 x1, .int .i64 y1]) (by first | (go_simp; done) | (go_simp; rfl)) (fun W base ok => Reps.snoc (Reps.none _ _) (KT_M (u, x1, y1) W base ok) rfl) (by simp) ?_
            clear HS
            intro A_t c_t w1 HS
            refine ge hK ⟨HS.out.c 4 2 (v := .slice B z.length b) rfl rfl, HS.out.sx 3 rfl HE.out, HS.out.c 1 0 (v := .int .i64 x1) rfl rfl, HS.out.c 1 1 (v := .int .i64 y1) rfl rfl⟩ (fun hHeld => ?_)
            clear hK K
            refine run_d rfl (fun K hK => ?_)
            refine stp_rows KT rfl (fun _ _ _ _ _ h => h) (by rfl) HS 5 rfl (.tmp 51) (.tmp 58) 24 (.agg #[(.string ⟨#[]⟩), (.int .i64 0), (.int .i64 0)]) 32 rfl Try.underlying24 infoTerm (by kernel_rfl) [((u, x1, y1) : Tm)] rfl rfl (HS.out.reads 0 rfl) (by show (z.length + 1) * 32 ≤ _; omega) ?_
            clear HS
            intro A_y' c_y' y' w1 Ny' HS
            simp only [List.set_cons_zero, List.set_cons_succ] at HS
            refine gd hK ?_
            clear hK K
            repeat (first | ((with_reducible refine gate_p ?_); refine rp rfl rfl ?_) | ((with_reducible refine gate_t ?_); refine rt rfl rfl hHeld ?_))
            refine run_d rfl (fun K hK => ?_)
            refine st1 HS 4 2 #[.int .i64 (d : Int), .int .i64 (n : Int), (.slice A_y' y'.length c_y')] rfl rfl rfl rfl rfl ?_
            clear HS
            intro w1 HS
            refine goD hK rfl ?_
            clear hK K
            refine run_done ?_
            clear hHeld
            go_wp2
            repeat (focus ((go_roundw; (case rel => first | exact ⟨i + 1, B, b, z, _, _, by omega, by go_num, by assumption, by omega, HZ, sX HS [1, 2, 3, 4, 5, 0]⟩ | exact ⟨i + 1, B, b, z, _, _, by omega, by go_num, by assumption, by omega, HZ, sX HS [2, 3, 4, 5, 6, 1]⟩); (case measure => simp [intOf]; omega)); done))
            have HZ2 := Aside0.mk (show ∀ t ∈ y', t.1.size ≤ 5 by rw [Ny'.out]; intro t ht; rcases List.mem_append.1 ht with ht | ht; exact HZ.out t ht; rw [List.mem_singleton.1 ht]; exact hu5)
            have hyl : y'.length ≤ j * 6561 + (i + 1) := by rw [Ny'.out, List.length_append, List.length_singleton]; omega
            go_roundw
            case rel => exact ⟨i + 1, A_y', c_y', y', k4, h4, by omega, by go_num, hk4, hyl, HZ2, sX HS [3, 4, 5, 6, 7, 2]⟩
            case measure => simp [intOf]; omega
          · have h4b : ¬ ((4 : Int) < (us.length : Int)) := by omega
            go_wp2_with (first | (go_at_call 57; refine (HN.out k1 h1 3 _ (HS.out.at (i := 5) rfl) (HC.out.mod (HS.out.sel [5] (by decide)) (fun _ h => h)) hk1 (by omega)).mono ?_; rintro e_ w1 ⟨q1, k3, h3, rfl, hk3, hr1, hr2, hs⟩; replace HS : Aside0 (Mod _ _ _ [_, _, _, _, _, _]) := sM1 HS 5 [0, 1, 2, 3, 4] rfl hs; clear hs; clear hr1 hr2; have hd_ : (q1 == 0) = true ∨ (q1 == 0) = false := (by cases (q1 == 0) <;> simp); rcases hd_ with hq1_ | hq1_) | (go_at_call 138; refine (HF.out k3 h3 _ (HS.out.at (i := 0) rfl) (HC.out.mod (HS.out.sel [5] (by decide)) (fun _ h => h)) hk3).mono ?_; rintro e_ w1 ⟨x1, y1, k4, h4, rfl, hk4, hs⟩; replace HS : Aside0 (Mod _ _ _ [_, _, _, _, _, _]) := sM1 HS 0 [1, 2, 3, 4, 5] rfl hs; clear hs; have hd_ : (x1 == 0) = true ∨ (x1 == 0) = false := (by cases (x1 == 0) <;> simp); rcases hd_ with hx1_ | hx1_) | ((with_reducible refine gate_dst (N := 9) rfl ?_); refine bxL 34 #[(.int .i64 0), (.int .i64 0)] HS ?_; clear HS; intro g_f w1 hg_f HS) | ((with_reducible refine gate_store (t := 34) (p := 9) rfl ?_); refine stL HS 0 0 #[.int .i64 x1, .int .i64 y1] rfl rfl rfl rfl rfl ?_; clear HS; intro w1 HS; have f1_ := HS.out.c 0 0 (v := .int .i64 x1) rfl rfl; have f2_ := HS.out.c 0 1 (v := .int .i64 y1) rfl rfl) | (go_at_call 108; refine (specZero _ _ _).mono ?_; rintro e_ w1 ⟨rfl, hb⟩; replace HS := sB HS hb; clear hb f1_ f2_))
            repeat (focus ((go_roundw; (case rel => first | exact ⟨i + 1, B, b, z, _, _, by omega, by go_num, by assumption, by omega, HZ, sX HS [1, 2, 3, 4, 5, 0]⟩ | exact ⟨i + 1, B, b, z, _, _, by omega, by go_num, by assumption, by omega, HZ, sX HS [2, 3, 4, 5, 6, 1]⟩); (case measure => simp [intOf]; omega)); done))
            replace HS := sD HS
            refine ps (.p 0 (.p 2 (.p 3 (.p 4 (.t 1 (.t 5 (.t 6 (.p 7 (.e 8 (.d 9 (.p 10 (.d 11 .done)))))))))))) (fun w' => w'.cell? ⟨g_q, 2, none⟩ = some (.slice B z.length b) ∧ w'.cell? (ad.add i) = some (.string u) ∧ w'.cell? ⟨g_f, 0, none⟩ = some (.int .i64 x1) ∧ w'.cell? ⟨g_f, 1, none⟩ = some (.int .i64 y1)) [9, 11] ⟨HS.out.c 3 2 (v := .slice B z.length b) rfl rfl, HS.out.sx 2 rfl HE.out, HS.out.c 0 0 (v := .int .i64 x1) rfl rfl, HS.out.c 0 1 (v := .int .i64 y1) rfl rfl⟩ (fun hHeld => ?_)
            repeat (first | ((with_reducible refine gate_p ?_); refine rp rfl rfl ?_) | ((with_reducible refine gate_t ?_); refine rt rfl rfl hHeld ?_))
            refine run_e rfl (fun K hK => ?_)
            refine stp_lit (KT) rfl 38 (by rfl) HS (xs := [((u, x1, y1) : Tm)]) (inner := [.string u, .int .i64 x1, .int .i64 y1]) (by first | (go_simp; done) | (go_simp; rfl)) (fun W base ok => Reps.snoc (Reps.none _ _) (KT_M (u, x1, y1) W base ok) rfl) (by simp) ?_
            clear HS
            intro A_t c_t w1 HS
            refine ge hK ⟨HS.out.c 4 2 (v := .slice B z.length b) rfl rfl, HS.out.sx 3 rfl HE.out, HS.out.c 1 0 (v := .int .i64 x1) rfl rfl, HS.out.c 1 1 (v := .int .i64 y1) rfl rfl⟩ (fun hHeld => ?_)
            clear hK K
            refine run_d rfl (fun K hK => ?_)
            refine stp_rows KT rfl (fun _ _ _ _ _ h => h) (by rfl) HS 5 rfl (.tmp 51) (.tmp 58) 24 (.agg #[(.string ⟨#[]⟩), (.int .i64 0), (.int .i64 0)]) 32 rfl Try.underlying24 infoTerm (by kernel_rfl) [((u, x1, y1) : Tm)] rfl rfl (HS.out.reads 0 rfl) (by show (z.length + 1) * 32 ≤ _; omega) ?_
            clear HS
            intro A_y' c_y' y' w1 Ny' HS
            simp only [List.set_cons_zero, List.set_cons_succ] at HS
            refine gd hK ?_
            clear hK K
            repeat (first | ((with_reducible refine gate_p ?_); refine rp rfl rfl ?_) | ((with_reducible refine gate_t ?_); refine rt rfl rfl hHeld ?_))
            refine run_d rfl (fun K hK => ?_)
            refine st1 HS 4 2 #[.int .i64 (d : Int), .int .i64 (n : Int), (.slice A_y' y'.length c_y')] rfl rfl rfl rfl rfl ?_
            clear HS
            intro w1 HS
            refine goD hK rfl ?_
            clear hK K
            refine run_done ?_
            clear hHeld
            go_wp2
            repeat (focus ((go_roundw; (case rel => first | exact ⟨i + 1, B, b, z, _, _, by omega, by go_num, by assumption, by omega, HZ, sX HS [1, 2, 3, 4, 5, 0]⟩ | exact ⟨i + 1, B, b, z, _, _, by omega, by go_num, by assumption, by omega, HZ, sX HS [2, 3, 4, 5, 6, 1]⟩); (case measure => simp [intOf]; omega)); done))
            have HZ2 := Aside0.mk (show ∀ t ∈ y', t.1.size ≤ 5 by rw [Ny'.out]; intro t ht; rcases List.mem_append.1 ht with ht | ht; exact HZ.out t ht; rw [List.mem_singleton.1 ht]; exact hu5)
            have hyl : y'.length ≤ j * 6561 + (i + 1) := by rw [Ny'.out, List.length_append, List.length_singleton]; omega
            go_roundw
            case rel => exact ⟨i + 1, A_y', c_y', y', k4, h4, by omega, by go_num, hk4, hyl, HZ2, sX HS [3, 4, 5, 6, 7, 2]⟩
            case measure => simp [intOf]; omega
        · obtain rfl : i = us.length := by omega
          go_wp2
          replace HS : Aside0 (Mod _ _ _ [_, _, _, _, _]) := sX HS [1, 2, 3, 4, 5]
          go_roundw
          case rel => exact ⟨j + 1, B, b, z, k1, h1, by omega, by go_num, hk1, by omega, HZ, sX HS [0, 1, 2, 3, 4]⟩
          case measure => simp [intOf]; omega
    · obtain rfl : j = n + 1 := by omega
      have f1_ := HS.out.c 3 1 (v := .int .i64 (n : Int)) rfl rfl
      have f2_ := HS.out.c 0 0 (v := .int .i64 (d : Int)) rfl rfl
      have f3_ := HS.out.c 0 1 (v := .int .i64 (n : Int)) rfl rfl
      have f4_ := HS.out.c 0 2 (v := .slice B z.length b) rfl rfl
      go_wp2_with (first | ((with_reducible refine gate_store (t := 26) (p := 4) rfl ?_); refine stL HS 2 0 #[.int .i64 (d : Int), .int .i64 (n : Int), .slice B z.length b] rfl rfl rfl rfl rfl ?_; clear HS f1_ f2_ f3_ f4_; intro w1 HS))
      refine bodyPost_ret (results_cell_row rfl _ _ g_r 26 #[.int .i64 (d : Int), .int .i64 (n : Int), .slice B z.length b] (0, 0) _ rfl (HS.out.at (i := 2) rfl) Try.underlying26 rfl (by kernel_rfl)) rfl ?_
      exact ⟨B, b, z, k1, h1, rfl, hk1, bnd_iff.2 ⟨by omega, fun t ht => by have := HZ.out t ht; omega⟩, by omega, HS.out.sel [4, 1] (by decide)⟩
end Go.Proofs.Ytibjkjhpfmmjoaa.H



namespace Go.Proofs.Ytibjkjhpfmmjoaa.H
open Go.RowKit Go.Proofs.YtibjkjhpfmmjoaaW.PrintWords Go.Proofs.YtibjkjhpfmmjoaaW.PrintLast Go.Proofs.YtibjkjhpfmmjoaaW.PrintMore Go.Proofs.Ytibjkjhpfmmjoaa.M
attribute [local go_sem] max2_int min2_int max_two min_two max_three min_three max_four min_four
set_option linter.unusedVariables false
set_option linter.unusedSimpArgs false
set_option maxRecDepth 100000
def okT (l : Ts) : Prop := bnd l = true ∧ l.length ≤ 100000
set_option maxHeartbeats 8000000 in
theorem specDraw (g : Nat) (A : Option Addr) (c m k : Nat) (h : Int) (w : World) (ho : (srcB g A m c k h).I w) (hcd : Code w g A m) (hk : k ≤ m) (hm : m ≤ 1048576) :
    Calls Try.prog 101 #[.pointer (some ⟨g, 0, none⟩)] w fun e w' => ∃ (d n : Nat) (B : Option Addr) (b : Nat) (l : Ts) (k' : Nat) (h' : Int), e = .returned (.agg #[.int .i64 (d : Int), .int .i64 (n : Int), .slice B l.length b]) ∧ 1 ≤ d ∧ d ≤ 3 ∧ 1 ≤ n ∧ n ≤ 5 ∧ k' ≤ m ∧ okT l ∧ Mod w w' (fun b => b = g) [srcB g A m c k' h', rowT B b l] := by
  have HS := Aside0.mk (Mod.own1 ho)
  have HC := Aside0.mk hcd
  have HL := Aside0.mk (fun k h W k1 k2 hk => specLike g A c m k h W k1 k2 hk hm)
  have HO := Aside0.mk (fun k h d n B0 m0 c0 W k1 k2 hk h1 h2 h3 => specDrawOf g A c m k h d n B0 m0 c0 W k1 k2 hk hm h1 h2 h3)
  clear ho hcd
  go_enter Try.func101, Try.ntmps101
  go_wp2_with (first | ((with_reducible refine gate_dst (N := 2) rfl ?_); refine bxL 26 #[(.int .i64 0), (.int .i64 0), (.slice none 0 0)] HS ?_; clear HS; intro g_r w1 hg_r HS) | (go_at_call 84; refine (HL.out k h _ (HS.out.at (i := 1) rfl) (HC.out.mod (HS.out.sel [0] (by decide)) (fun _ h => h)) hk).mono ?_; rintro e_ w1 ⟨d, n, B, b, k1, h1, rfl, hd0, hd1, hn0, hn1, hk1, hs⟩; replace HS : Aside0 (Mod _ _ _ [_, _]) := sM1 HS 1 [0] rfl hs; clear hs) | (go_at_call 83; refine (specFit d n B 0 b _ hd0 hd1 hn0 hn1).mono ?_; rintro e_ w1 ⟨n2, rfl, hn2, hn3, hn4, hb⟩; replace HS := sB HS hb; clear hb; clear hn4; obtain ⟨d2, rfl⟩ : ∃ d2 : Nat, d = d2 := ⟨Int.toNat d, by omega⟩; obtain ⟨n3, rfl⟩ : ∃ n3 : Nat, n2 = n3 := ⟨Int.toNat n2, by omega⟩) | (go_at_call 112; refine (HO.out k1 h1 d2 n3 B 0 b _ (HS.out.at (i := 0) rfl) (HC.out.mod (HS.out.sel [0] (by decide)) (fun _ h => h)) hk1 (by omega) (by omega) (by omega)).mono ?_; rintro e_ w1 ⟨B2, b2, l, k2, h2, rfl, hk2, hbl, hll, hs⟩; have n_ := Aside0.mk (Mod.step (A0 := [srcB g A m c k1 h1]) (R := [bx g_r 26 #[(.int .i64 0), (.int .i64 0), (.slice none 0 0)]]) (HS.out.sel [0, 1] (by decide)) hs (fun k_ hk_ => ⟨_, List.mem_cons_self, hk_⟩)); clear HS hs; have HS := n_; clear n_; simp only [List.cons_append, List.nil_append] at HS) | ((with_reducible refine gate_store (t := 26) (p := 2) rfl ?_); refine stL HS 2 0 #[.int .i64 (d2 : Int), .int .i64 (n3 : Int), .slice B2 l.length b2] rfl rfl rfl rfl rfl ?_; clear HS; intro w1 HS))
  refine bodyPost_ret (results_cell_row rfl _ _ g_r 26 #[.int .i64 (d2 : Int), .int .i64 (n3 : Int), .slice B2 l.length b2] (0, 0) _ rfl (HS.out.at (i := 2) rfl) Try.underlying26 rfl (by kernel_rfl)) rfl ?_
  exact ⟨d2, n3, B2, b2, l, k2, h2, rfl, by omega, by omega, by omega, by omega, hk2, ⟨hbl, hll⟩, HS.out.sel [0, 1] (by decide)⟩
end Go.Proofs.Ytibjkjhpfmmjoaa.H



