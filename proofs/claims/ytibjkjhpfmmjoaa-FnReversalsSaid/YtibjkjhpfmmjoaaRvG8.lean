/- Plain facts and contracts of functions that the law's walk uses. Conditions: those that stand in each statement. -/
import Derived.Test.YtibjkjhpfmmjoaaRvG1
import Derived.Test.YtibjkjhpfmmjoaaRvG6
import Derived.Test.YtibjkjhpfmmjoaaRvG7
import Derived.Test.YtibjkjhpfmmjoaaRvG3
import Derived.Laws.BitsLemmas
import Derived.Laws.Bits64
import Derived.Test.YtibjkjhpfmmjoaaRvG4
import Derived.Test.YtibjkjhpfmmjoaaRvG2
namespace Go.Proofs.Ytibjkjhpfmmjoaa.M
set_option linter.unusedVariables false
set_option linter.unusedSimpArgs false
theorem isS_mk {d n : Int} {p : Ts} (h : lev d n = true) (hp : isTs d.toNat n.toNat p = true) : isS d n p = true := by unfold isS; rw [h, hp]; rfl
theorem lev_nat {d n : Int} (h : lev d n = true) : d.toNat ≤ 3 ∧ n.toNat ≤ 5 ∧ d.toNat ≤ 9 := by have := lev_iff.1 h; omega
theorem isS_bnd' {d n : Int} {p : Ts} (h : isS d n p = true) : bnd p = true := by
  obtain ⟨h1, h2, _⟩ := lev_nat (isS_l h)
  exact isTs_bnd h1 h2 (isS_t h)
theorem resO_cases {d n : Int} (hl : lev d n = true) {o : Option Ts} (ho : ∀ p, o = some p → isTs d.toNat n.toNat p = true) : (∃ p, o = some p ∧ resO d n o = (d, n, p, 0) ∧ isS d n p = true) ∨ (o = none ∧ resO d n o = noS 3) := by
  cases o with
  | none => exact .inr ⟨rfl, rfl⟩
  | some p => exact .inl ⟨p, rfl, rfl, isS_mk hl (ho p rfl)⟩
/-- A product. -/
abbrev mulR (d n : Int) (l : Ts) (d2 n2 : Int) (l2 : Ts) : Rs := twoR mulS d n l d2 n2 l2
theorem codeR_same {d n : Int} {x y : Ts} (hx : isS d n x = true) (hy : isS d n y = true) : codeR d n x d n y = 0 := codeR_4 hx hy (by simp)
theorem mulR_same {d n : Int} {x y : Ts} (hx : isS d n x = true) (hy : isS d n y = true) : mulR d n x d n y = resO d n (mulS d.toNat n.toNat x y) := by
  unfold mulR twoR
  rw [if_pos (codeR_same hx hy)]
theorem mulR_cases (d n : Int) (x : Ts) (d2 n2 : Int) (y : Ts) :
    (∃ p, isS d n x = true ∧ isS d n y = true ∧ d = d2 ∧ n = n2 ∧ mulS d.toNat n.toNat x y = some p ∧ mulR d n x d2 n2 y = (d, n, p, 0) ∧ isS d n p = true) ∨ ∃ c, c ≠ 0 ∧ mulR d n x d2 n2 y = noS c := by
  by_cases h : codeR d n x d2 n2 y = 0
  · obtain ⟨h1, h2, h3, h4⟩ := codeR_zero h
    subst h3 h4
    obtain ⟨_, _, h9⟩ := lev_nat (isS_l h1)
    rw [mulR_same h1 h2]
    rcases resO_cases (isS_l h1) (o := mulS d.toNat n.toNat x y) fun p hp => mul_ts h9 hp with ⟨p, e1, e2, e3⟩ | ⟨e1, e2⟩
    · exact .inl ⟨p, h1, h2, rfl, rfl, e1, e2, e3⟩
    · exact .inr ⟨3, by decide, e2⟩
  · refine .inr ⟨_, h, ?_⟩
    unfold mulR twoR
    rw [if_neg h]
/-! ### reversals -/
theorem sgn_sgn (b : Bool) {s t : ByteArray} (h : s.size = t.size) (a : Fr) : sgn b s (sgn b t a) = a := by
  unfold sgn
  rw [h]
  by_cases hc : (b && decide (t.size % 2 = 1)) = true
  · rw [if_pos hc, if_pos hc]
    show (- -a.1, a.2) = a
    rw [Int.neg_neg]
  · rw [if_neg hc, if_neg hc]
theorem rev_is {d n : Nat} (hd : d ≤ 9) (b : Bool) {l : Ts} (h : isTs d n l = true) : isTs d n (tabT d n (revF b l)) = true := tabT_is hd (revF_good h)
theorem rev_back {d n : Nat} (hd : d ≤ 9) (b : Bool) {l : Ts} (h : isTs d n l = true) : tabT d n (revF b (tabT d n (revF b l))) = l := by
  refine (eq_tabT hd h (revF_good (rev_is hd b h)) fun w hw hn => ?_).symm
  show co l w = sgn b w (co (tabT d n (revF b l)) (rev w))
  rw [tabT_co hd (revF_good h) (by rw [rev_wd]; exact hw) (by rw [rev_size]; exact hn)]
  show co l w = sgn b w (sgn b (rev w) (co l (rev (rev w))))
  rw [rev_rev, sgn_sgn b (rev_size w).symm]
theorem allW_nodup {d : Nat} (hd : d ≤ 9) (n : Nat) : (allW d n).Nodup := (allW_srt hd n).imp fun h => bef_ne h
theorem rev_length {d n : Nat} (hd : d ≤ 9) (b : Bool) {l : Ts} (h : isTs d n l = true) : (tabT d n (revF b l)).length = l.length := by
  conv => rhs; rw [eq_tabT_co hd h]
  have hp : ((allW d n).map rev).Perm (allW d n) := by
    refine (List.perm_ext_iff_of_nodup ?_ (allW_nodup hd n)).2 fun w => ?_
    · refine (List.pairwise_map).2 ((allW_nodup hd n).imp fun {a b} hab e => hab ?_)
      rw [← rev_rev a, ← rev_rev b, e]
    · rw [List.mem_map, allW_mem hd]
      constructor
      · rintro ⟨v, hv, rfl⟩
        rw [rev_wd, rev_size]
        exact (allW_mem hd).1 hv
      · rintro ⟨h1, h2⟩
        exact ⟨rev w, (allW_mem hd).2 ⟨by rw [rev_wd]; exact h1, by rw [rev_size]; exact h2⟩, rev_rev w⟩
  have h2 := (hp.filterMap fun w => if (co l w).1 = 0 then none else some (w, co l w)).length_eq
  unfold tabT
  rw [← h2, List.filterMap_map]
  have h3 : ∀ (g h : ByteArray → Option Tm), (∀ w, (g w).isSome = (h w).isSome) → ∀ ws : List ByteArray, (ws.filterMap g).length = (ws.filterMap h).length := by
    intro g h e ws
    induction ws with
    | nil => rfl
    | cons w ws ih =>
      have ew := e w
      rw [List.filterMap_cons, List.filterMap_cons]
      cases hg : g w <;> cases hh : h w <;> rw [hg, hh] at ew <;> first | (cases ew; done) | exact ih | simp only [List.length_cons, ih]
  refine h3 _ _ (fun w => ?_) _
  have e : (revF b l w).1 = 0 ↔ (co l (rev w)).1 = 0 := by
    unfold revF sgn
    split
    · show -(co l (rev w)).1 = 0 ↔ _; omega
    · exact Iff.rfl
  show (if (revF b l w).1 = 0 then none else some (w, revF b l w) : Option Tm).isSome = (if (co l (rev w)).1 = 0 then none else some (rev w, co l (rev w)) : Option Tm).isSome
  by_cases h0 : (co l (rev w)).1 = 0
  · rw [if_pos (e.2 h0), if_pos h0]
  · rw [if_neg (fun h => h0 (e.1 h)), if_neg h0]; rfl
theorem revR_yes {b : Bool} {d n : Int} {l : Ts} (h : isS d n l = true) : revR b d n l = (d, n, tabT d.toNat n.toNat (revF b l), 0) := by unfold revR; rw [if_pos h]
theorem revR_no {b : Bool} {d n : Int} {l : Ts} (h : isS d n l = false) : revR b d n l = noS 1 := by unfold revR; rw [if_neg (by rw [h]; decide)]
theorem rev_isS (b : Bool) {d n : Int} {l : Ts} (h : isS d n l = true) : isS d n (tabT d.toNat n.toNat (revF b l)) = true := isS_mk (isS_l h) (rev_is (lev_nat (isS_l h)).2.2 b (isS_t h))
theorem revR_back (b : Bool) {d n : Int} {l : Ts} (h : isS d n l = true) : revR b d n (tabT d.toNat n.toNat (revF b l)) = (d, n, l, 0) := by
  rw [revR_yes (rev_isS b h), rev_back (lev_nat (isS_l h)).2.2 b (isS_t h)]
theorem revS_length (b : Bool) {d n : Int} {l : Ts} (h : isS d n l = true) : (tabT d.toNat n.toNat (revF b l)).length = l.length := rev_length (lev_nat (isS_l h)).2.2 b (isS_t h)
theorem qf_rev {d n : Nat} (hd : d ≤ 9) {l : Ts} (h : isTs d n l = true) : OnQ d n (qf (tabT d n (revF false l))) fun u => qf l u.reverse := fun u hu hn => by
  have hs : isWd d (mkW u) = true ∧ (mkW u).size ≤ n := ⟨hu, by rw [← bl_len, bl_mk]; exact hn⟩
  unfold qf
  rw [tabT_co hd (revF_good h) hs.1 hs.2]
  rfl
theorem isWL_rev {d : Nat} {u : List UInt8} (h : isWL d u = true) : isWL d u.reverse = true := by unfold isWL at *; rw [List.all_reverse]; exact h
theorem mul_rev {d n : Nat} (hd : d ≤ 9) {x y p t : Ts} (hx : isTs d n x = true) (hy : isTs d n y = true) (h : mulS d n x y = some p) (k : mulS d n (tabT d n (revF false y)) (tabT d n (revF false x)) = some t) : t = tabT d n (revF false p) := by
  have tp := mul_ts hd h
  refine ts_eq (mul_ts hd k) (rev_is hd false tp) ?_
  refine (mul_conv hd (rev_is hd false hy) (rev_is hd false hx) k).trans (OnQ.trans ?_ (qf_rev hd tp).symm)
  refine ((qf_rev hd hy).conv (qf_rev hd hx)).trans (OnQ.trans (fun u _ _ => conv_rev (qf x) u (qf y)) ?_)
  intro u hu hn
  exact ((mul_conv hd hx hy h) u.reverse (isWL_rev hu) (by rw [List.length_reverse]; exact hn)).symm
theorem mulR_rev {d n : Int} {x y p : Ts} (h : mulR d n x d n y = (d, n, p, 0)) (hk : (mulR d n (tabT d.toNat n.toNat (revF false y)) d n (tabT d.toNat n.toNat (revF false x))).2.2.2 = 0) : mulR d n (tabT d.toNat n.toNat (revF false y)) d n (tabT d.toNat n.toNat (revF false x)) = (d, n, tabT d.toNat n.toNat (revF false p), 0) := by
  rcases mulR_cases d n (tabT d.toNat n.toNat (revF false y)) d n (tabT d.toNat n.toNat (revF false x)) with ⟨q, _, _, _, _, eq, e1, hq⟩ | ⟨c, hc, e1⟩
  · rcases mulR_cases d n x d n y with ⟨p', hx, hy, _, _, ep, e0, _⟩ | ⟨c, hc, e0⟩
    · rw [h] at e0
      obtain rfl : p = p' := by injection e0 with _ h5; injection h5 with _ h5; injection h5
      rw [e1, mul_rev (lev_nat (isS_l hx)).2.2 (isS_t hx) (isS_t hy) ep eq]
    · rw [h] at e0; exact absurd (congrArg (·.2.2.2) e0).symm hc
  · rw [e1] at hk; exact absurd hk hc
/-! ### truncations -/
theorem truncR_cases (d n : Int) (l : Ts) (k : Int) : (isS d n l = true ∧ truncR d n l k = (d, k, l.filter (upLen k), 0)) ∨ ∃ c, c ≠ 0 ∧ truncR d n l k = noS c := by
  unfold truncR
  by_cases h : isS d n l = true
  · rw [if_pos h]
    by_cases hk : inR k 1 n = true
    · rw [if_pos hk]; exact .inl ⟨h, rfl⟩
    · rw [if_neg hk]; exact .inr ⟨2, by decide, rfl⟩
  · rw [if_neg h]; exact .inr ⟨1, by decide, rfl⟩
theorem coef_at {d n : Int} {l : Ts} {k : Int} (h : isS d n l = true) {t : Tm} (ht : t ∈ l.filter (upLen k)) : coefR d n l t.1 = (t.2.1, t.2.2, 0) ∧ t.1.size ≤ 5 := by
  have hm := (List.mem_filter.1 ht).1
  obtain ⟨z1, z2, z3, z4⟩ := isTm_fr ((isTs_iff.1 (isS_t h)).1 t hm)
  have hl := lev_iff.1 (isS_l h)
  refine ⟨?_, by omega⟩
  unfold coefR
  rw [if_pos h, if_pos ⟨by omega, z3⟩, co_mem (isTs_iff.1 (isS_t h)).2 hm]
end Go.Proofs.Ytibjkjhpfmmjoaa.M

namespace Go.Proofs.Ytibjkjhpfmmjoaa.H
open Go.RowKit Go.Proofs.YtibjkjhpfmmjoaaW.PrintWords Go.Proofs.YtibjkjhpfmmjoaaW.PrintLast Go.Proofs.YtibjkjhpfmmjoaaW.PrintMore Go.Proofs.Ytibjkjhpfmmjoaa.M
attribute [local go_sem] max2_int min2_int max_two min_two max_three min_three max_four min_four
set_option linter.unusedVariables false
set_option linter.unusedSimpArgs false
set_option maxRecDepth 100000
/-- A source of numbers. -/
abbrev srcB (g : Nat) (A : Option Addr) (n c : Nat) (k : Nat) (h : Int) : As := bx g 98 #[.slice A n c, .int .i64 (k : Int), .int .u64 h]
/-- The bytes of a code, which are no part of the source's own block g. -/
def Code (w : World) (g : Nat) (A : Option Addr) (n : Nat) : Prop := ∀ i, i < n → ∃ (ad : Addr) (x : Int), A = some ad ∧ ad.block ≠ g ∧ w.cell? (ad.add i) = some (.int .u8 x) ∧ 0 ≤ x ∧ x < 256
theorem add_blk (a : Addr) (i : Nat) : (a.add i).block = a.block := by unfold Addr.add; split <;> rfl
theorem cell_heap {w W : World} {a : Addr} (h : W.heap[a.block]? = w.heap[a.block]?) : W.cell? a = w.cell? a := by
  unfold World.cell?
  rw [h]
theorem Mod.keep {w W : World} {S : Nat → Prop} {L : List As} (h : Mod w W S L) {a : Addr} {v : Value} (hc : w.cell? a = some v) (hS : ¬ S a.block) : W.cell? a = some v :=
  (cell_heap (h.block _ (World.block_lt_of_cell? w _ hc) hS)).trans hc
theorem source_bound (z : Int) : 0 ≤ wrap64 (bits BinOp.and IntKind.u64 (IntKind.u64.wrap z / 2147483648) 1073741823) ∧ wrap64 (bits BinOp.and IntKind.u64 (IntKind.u64.wrap z / 2147483648) 1073741823) ≤ 1073741823 := by
  have h0 : 0 ≤ IntKind.u64.wrap z ∧ IntKind.u64.wrap z < 18446744073709551616 := by rw [IntKind.wrap_u64]; omega
  have h64 : (2 : Int) ^ 64 = 18446744073709551616 := by decide
  have h1 := bits_mask .u64 64 (by decide) (fun n a b => IntWalk.u64_in n ⟨a, by rw [h64] at b; omega⟩) 30 (by decide) (IntKind.u64.wrap z / 2147483648) (by omega) (by rw [h64]; omega)
  rw [show ((2 : Int) ^ 30 - 1) = 1073741823 by decide, show ((2 : Int) ^ 30) = 1073741824 by decide] at h1
  rw [h1]
  have h2 : 0 ≤ IntKind.u64.wrap z / 2147483648 % 1073741824 ∧ IntKind.u64.wrap z / 2147483648 % 1073741824 < 1073741824 := by omega
  rw [wrap_id (by omega) (by omega)]
  omega
theorem tmod_bound {a n : Int} (ha : 0 ≤ a) (hn : 1 ≤ n) : 0 ≤ Int.tmod a n ∧ Int.tmod a n < n := ⟨Int.tmod_nonneg _ ha, Int.tmod_lt_of_pos _ (by omega)⟩
theorem Code.mod {w W : World} {g n : Nat} {A : Option Addr} {L : List As} {S : Nat → Prop} (h : Code w g A n) (HS : Mod w W S L) (hS : ∀ k, S k → k = g) : Code W g A n := fun i hi => by
  obtain ⟨ad, x, h1, h2, h3, h4⟩ := h i hi
  refine ⟨ad, x, h1, h2, ?_, h4⟩
  rw [cell_heap (w := w) (HS.block _ (World.block_lt_of_cell? w _ h3) (fun hk => h2 (by rw [← add_blk ad i]; exact hS _ hk)))]
  exact h3
theorem ki_at {w : World} {k : IntKind} {A : Option Addr} {n : Nat} {l : List Int} (h : (Kd.int k).C w A n l) {i : Nat} {a : Int} (hi : l[i]? = some a) : ∃ ad, A = some ad ∧ w.cell? (ad.add i) = some (.int k a) := by
  obtain ⟨h1, h2⟩ := List.getElem?_eq_some_iff.1 hi
  have hln : l.length = n := h.1
  obtain ⟨ad, c, hA, hl, hK, hc⟩ := Kd.C_get h 0 (i : Int) (by omega) (by omega)
  simp only [Int.toNat_natCast] at hc hK
  have hK' : c = [.int k (l.getD i 0)] := hK
  subst hK'
  have := hc 0 _ rfl
  rw [List.getD_eq_getElem?_getD, hi] at this
  exact ⟨ad, hA, by rwa [show (Kd.int k).sz = 1 from rfl, Nat.mul_one, Nat.add_zero] at this⟩
theorem Mod.ge {w W : World} {L : List As} (h : Mod w W No L) {i g t : Nat} {cs : Array Value} (hi : L[i]? = some (bx g t cs)) : w.heap.size ≤ g :=
  ((h.all _ (List.mem_of_getElem? hi)).2 g rfl).elim (fun h => h.elim) id
theorem Code.of {w W : World} {L : List As} {A : Option Addr} {xs : List Int} (HS : Mod w W No L) {i g t : Nat} {cs : Array Value} (hi : L[i]? = some (bx g t cs)) (hr : (Kd.int .u8).C w A xs.length xs) (hx : ∀ x ∈ xs, 0 ≤ x ∧ x < 256) : Code W g A xs.length := fun j hj => by
  have hj' : xs[j]? = some xs[j] := List.getElem?_eq_getElem hj
  obtain ⟨ad, h1, h2⟩ := ki_at hr hj'
  have h3 := HS.ge hi
  have h4 : (ad.add j).block < w.heap.size := World.block_lt_of_cell? w _ h2
  exact ⟨ad, xs[j], h1, fun e => by rw [← e] at h3; rw [add_blk] at h4; omega, HS.old h2, hx _ (List.getElem_mem hj)⟩
set_option maxHeartbeats 8000000 in
theorem specFrom (A : Option Addr) (c : Nat) (xs : List Int) (w : World) (hr : (Kd.int .u8).C w A xs.length xs) (hl : xs.length ≤ 1048576) :
    Calls Try.prog 51 #[.slice A xs.length c] w fun e w' => ∃ (g : Nat) (h : Int), e = .returned (.pointer (some ⟨g, 0, none⟩)) ∧ Sep w w' [srcB g A xs.length c 0 h] := by
  have HR := Aside0.mk hr
  have HS := Aside0.mk (Sep.refl w)
  clear hr
  go_enter Try.func51, Try.ntmps51
  go_wp2_with (first | ((with_reducible refine gate_dst (N := 11) rfl ?_); refine bxL 98 #[(.slice A xs.length c), (.int .i64 0), (.int .u64 _)] HS ?_; clear HS; intro g_s w1 hg_s HS))
  go_loopw [4] (fun q w' => ∃ (i : Nat) (h : Int), i ≤ xs.length ∧ q = .int .i64 (i : Int) ∧ Aside0 (Mod w w' No [bx g_s 98 #[.slice A xs.length c, .int .i64 0, .int .u64 h]])) (fun q _ => xs.length - (intOf q).toNat)
  case atStart => exact ⟨0, _, by omega, rfl, HS⟩
  case round =>
    clear HS
    obtain ⟨i, h, hi, rfl, HS⟩ := hrel
    by_cases hlt : i < xs.length
    · obtain ⟨x, hx⟩ : ∃ x, xs[i]? = some x := ⟨_, List.getElem?_eq_getElem hlt⟩
      obtain ⟨ad, ea, h_⟩ := ki_at HR.out hx
      have HX := Aside0.mk h_
      cases ea
      clear h_ hx
      by_cases h4 : i < 4096
      · skip
        go_wp2
        replace HS := sD HS
        refine ps (.p 0 (.p 1 (.p 2 (.p 3 (.p 6 (.p 7 (.p 8 (.t 4 (.p 5 (.t 9 (.p 10 (.p 11 (.p 12 (.p 13 (.p 14 (.d 15 .done)))))))))))))))) (fun w' => w'.cell? ⟨g_s, 2, none⟩ = some (.int .u64 h) ∧ w'.cell? (ad.add i) = some (.int .u8 x)) [15] ⟨HS.out.c 0 2 (v := .int .u64 h) rfl rfl, HS.out.old HX.out⟩ (fun hHeld => ?_)
        repeat (first | ((with_reducible refine gate_p ?_); refine rp rfl rfl ?_) | ((with_reducible refine gate_t ?_); refine rt rfl rfl hHeld ?_))
        refine run_d rfl (fun K hK => ?_)
        refine st1 HS 0 2 #[.slice (some ad) xs.length c, .int .i64 0, (.int .u64 _)] rfl rfl rfl rfl rfl ?_
        clear HS
        intro w1 HS
        refine goD hK rfl ?_
        clear hK K
        refine run_done ?_
        clear hHeld
        go_wp2
        go_roundw
        case rel => exact ⟨i + 1, _, by omega, by go_num, HS⟩
        case measure => simp [intOf]; omega
      · skip
        go_wp2
        go_ret
        exact ⟨g_s, h, rfl, HS.out⟩
    · obtain rfl : i = xs.length := by omega
      go_wp2
      go_ret
      exact ⟨g_s, h, rfl, HS.out⟩
set_option maxHeartbeats 8000000 in
theorem specNext (g : Nat) (A : Option Addr) (c m k : Nat) (h n : Int) (w : World) (ho : (srcB g A m c k h).I w) (hcd : Code w g A m) (hk : k ≤ m) (hm : m ≤ 1048576) (hn : n ≤ 4611686018427387904) :
    Calls Try.prog 57 #[.pointer (some ⟨g, 0, none⟩), .int .i64 n] w fun e w' => ∃ (r : Int) (k' : Nat) (h' : Int), e = .returned (.int .i64 r) ∧ k' ≤ m ∧ (1 ≤ n → 0 ≤ r ∧ r < n) ∧ (n < 1 → r = 0) ∧ Mod w w' (fun b => b = g) [srcB g A m c k' h'] := by
  have HS := Aside0.mk (Mod.own1 ho)
  have HC := Aside0.mk hcd
  clear ho hcd
  by_cases h1 : n < 1
  · skip
    go_enter Try.func57, Try.ntmps57
    go_wp2
    go_ret
    exact ⟨0, k, h, rfl, hk, fun h => by omega, fun _ => rfl, HS.out⟩
  · skip
    go_enter Try.func57, Try.ntmps57
    have f1_ := HS.out.c 0 2 (v := .int .u64 h) rfl rfl
    go_wp2_with (first | ((with_reducible refine gate_store (t := 96) (p := 16) rfl ?_); refine stL HS 0 2 #[.slice A m c, .int .i64 (k : Int), (.int .u64 _)] rfl rfl rfl rfl rfl ?_; clear HS f1_; intro w1 HS; have f1_ := HS.out.c 0 2 (v := (.int .u64 _)) rfl rfl))
    have hB := source_bound (IntKind.u64.wrap (h * 6364136223846793005) + 1442695040888963407)
    obtain ⟨X, hX⟩ : ∃ X, X = wrap64 (bits BinOp.and IntKind.u64 (IntKind.u64.wrap (IntKind.u64.wrap (h * 6364136223846793005) + 1442695040888963407) / 2147483648) 1073741823) := ⟨_, rfl⟩
    rw [← hX] at hB ⊢
    clear hX
    obtain ⟨H, hH⟩ : ∃ H, H = IntKind.u64.wrap (IntKind.u64.wrap (h * 6364136223846793005) + 1442695040888963407) := ⟨_, rfl⟩
    rw [← hH] at HS f1_ ⊢
    clear hH
    obtain ⟨hX0, hX1⟩ := hB
    by_cases hlt : k < m
    · obtain ⟨ad, x, ea, hne, hcell, hx0, hx1⟩ := HC.out k hlt
      have HX := Aside0.mk hcell
      have HNE := Aside0.mk (show ¬ (ad.add k).block = g by rw [add_blk]; exact hne)
      cases ea
      clear hcell hne
      clear f1_
      go_wp2
      replace HS := sD HS
      refine ps (.p 0 (.p 1 (.p 2 (.p 4 (.p 5 (.p 6 (.t 3 (.t 7 (.p 8 (.p 9 .done)))))))))) (fun w' => w'.cell? ⟨g, 1, none⟩ = some (.int .i64 (k : Int)) ∧ w'.cell? ⟨g, 0, none⟩ = some (.slice (some ad) m c)) [] ⟨HS.out.c 0 1 (v := .int .i64 (k : Int)) rfl rfl, HS.out.c 0 0 (v := .slice (some ad) m c) rfl rfl⟩ (fun hHeld => ?_)
      repeat (first | ((with_reducible refine gate_p ?_); refine rp rfl rfl ?_) | ((with_reducible refine gate_t ?_); refine rt rfl rfl hHeld ?_))
      refine run_done ?_
      clear hHeld
      go_wp2
      replace HS := sD HS
      refine ps (.p 0 (.p 1 (.p 2 (.p 3 (.p 5 (.p 6 (.p 7 (.t 4 (.t 8 (.p 9 (.t 10 (.p 11 (.p 12 (.p 13 .done)))))))))))))) (fun w' => w'.cell? ⟨g, 0, none⟩ = some (.slice (some ad) m c) ∧ w'.cell? ⟨g, 1, none⟩ = some (.int .i64 (k : Int)) ∧ w'.cell? (ad.add k) = some (.int .u8 x)) [] ⟨HS.out.c 0 0 (v := .slice (some ad) m c) rfl rfl, HS.out.c 0 1 (v := .int .i64 (k : Int)) rfl rfl, HS.out.keep HX.out HNE.out⟩ (fun hHeld => ?_)
      repeat (first | ((with_reducible refine gate_p ?_); refine rp rfl rfl ?_) | ((with_reducible refine gate_t ?_); refine rt rfl rfl hHeld ?_))
      refine run_done ?_
      clear hHeld
      have f1_ := HS.out.c 0 1 (v := .int .i64 (k : Int)) rfl rfl
      go_wp2_with (first | ((with_reducible refine gate_store (t := 3) (p := 54) rfl ?_); refine stL HS 0 1 #[.slice (some ad) m c, (.int .i64 ((k + 1 : Nat) : Int)), .int .u64 H] rfl rfl rfl rfl rfl ?_; clear HS f1_; intro w1 HS))
      go_ret
      refine ⟨_, k + 1, H, rfl, by omega, fun _ => ?_, fun h => absurd h (by omega), HS.out⟩
      rw [wrap_id (x := x) (by omega) (by omega), wrap_id (x := X + x) (by omega) (by omega)]
      first | exact tmod_bound (by omega) (by omega) | exact ⟨Int.emod_nonneg _ (by omega), Int.emod_lt_of_pos _ (by omega)⟩
    · skip
      clear f1_
      go_wp2
      replace HS := sD HS
      refine ps (.p 0 (.p 1 (.p 2 (.p 4 (.p 5 (.p 6 (.t 3 (.t 7 (.p 8 (.p 9 .done)))))))))) (fun w' => w'.cell? ⟨g, 1, none⟩ = some (.int .i64 (k : Int)) ∧ w'.cell? ⟨g, 0, none⟩ = some (.slice A m c)) [] ⟨HS.out.c 0 1 (v := .int .i64 (k : Int)) rfl rfl, HS.out.c 0 0 (v := .slice A m c) rfl rfl⟩ (fun hHeld => ?_)
      repeat (first | ((with_reducible refine gate_p ?_); refine rp rfl rfl ?_) | ((with_reducible refine gate_t ?_); refine rt rfl rfl hHeld ?_))
      refine run_done ?_
      clear hHeld
      go_wp2
      go_ret
      refine ⟨_, k, H, rfl, by omega, fun _ => ?_, fun h => absurd h (by omega), HS.out⟩
      skip
      first | exact tmod_bound (by omega) (by omega) | exact ⟨Int.emod_nonneg _ (by omega), Int.emod_lt_of_pos _ (by omega)⟩
/-- A row of ints that is drawn from. -/
abbrev rowI (A : Option Addr) (c : Nat) (l : List Int) : As := rw' (Kd.int .i64) rfl 2 (.slice A l.length c) l
theorem Mod.disj {w W : World} {S : Nat → Prop} {L : List As} (h : Mod w W S L) {i j : Nat} {a b : As} (hi : L[i]? = some a) (hj : L[j]? = some b) (hij : i < j) : ∀ k, a.S k → b.S k → False := by
  obtain ⟨h1, rfl⟩ := List.getElem?_eq_some_iff.1 hi
  obtain ⟨h2, rfl⟩ := List.getElem?_eq_some_iff.1 hj
  exact List.pairwise_iff_getElem.1 h.dis i j h1 h2 hij
theorem rowCell {w W : World} {g b : Nat} {S : Nat → Prop} {L : List As} {ad : Addr} {l : List Int} (M : Mod w W S L) (hr : (rowI (some ad) b l).I w) (hS : ∀ k, S k → k = g) (hne : ∀ k, (rowI (some ad) b l).S k → k ≠ g) {i : Nat} {x : Int} (hx : l[i]? = some x) : W.cell? (ad.add i) = some (.int .i64 x) := by
  have h1 : (rowI (some ad) b l).I W := (rowI (some ad) b l).mv (fun k hk => M.block k ((rowI (some ad) b l).lt hr k hk) (fun h => hne k hk (hS k h))) hr
  obtain ⟨ad', ea, hc⟩ := ki_at (Kd.R_reads' h1).2.2 hx
  cases ea
  exact hc
set_option maxHeartbeats 8000000 in
theorem specPick (g : Nat) (A : Option Addr) (c m k : Nat) (h : Int) (B : Option Addr) (b : Nat) (l : List Int) (w : World) (ho : (srcB g A m c k h).I w) (hcd : Code w g A m) (hk : k ≤ m) (hm : m ≤ 1048576) (hr : (rowI B b l).I w) (hne : ∀ k, (rowI B b l).S k → k ≠ g) (hl0 : 1 ≤ l.length) (hl : l.length ≤ 1000) :
    Calls Try.prog 74 #[.pointer (some ⟨g, 0, none⟩), .slice B l.length b] w fun e w' => ∃ (r : Int) (k' : Nat) (h' : Int), e = .returned (.int .i64 r) ∧ k' ≤ m ∧ r ∈ l ∧ Mod w w' (fun b => b = g) [srcB g A m c k' h'] := by
  obtain ⟨ad, ea, h_⟩ := ki_at (Kd.R_reads' hr).2.2 (show l[0]? = some l[0] from List.getElem?_eq_getElem (by omega))
  clear h_
  cases ea
  have HS := Aside0.mk (Mod.own1 ho)
  have HC := Aside0.mk hcd
  have HR := Aside0.mk hr
  have HNE := Aside0.mk hne
  have HN := Aside0.mk (fun W k1 k2 => specNext g A c m k h (l.length : Int) W k1 k2 hk hm (by omega))
  clear ho hcd hr hne
  go_enter Try.func74, Try.ntmps74
  go_wp2_with (first | (go_at_call 57; refine (HN.out _ (HS.out.at (i := 0) rfl) (HC.out.mod HS.out (fun _ h => h))).mono ?_; rintro e_ w1 ⟨r, k1, h1, rfl, hk1, hr1, hr2, hs⟩; replace HS : Aside0 (Mod _ _ _ [_]) := sM1 HS 0 [] rfl hs; clear hs; obtain ⟨hr3, hr4⟩ := hr1 (by omega); clear hr1 hr2; obtain ⟨i, rfl⟩ : ∃ i : Nat, r = i := ⟨r.toNat, by omega⟩; obtain ⟨x, hx⟩ : ∃ x, l[i]? = some x := ⟨_, List.getElem?_eq_getElem (by omega)⟩; have HX := Aside0.mk hx; clear hx; have hil : i < l.length := (by omega); clear hr3 hr4; have f1_ := rowCell HS.out HR.out (fun _ h => h) HNE.out HX.out))
  go_ret
  exact ⟨x, k1, h1, rfl, hk1, List.mem_of_getElem? HX.out, HS.out⟩
end Go.Proofs.Ytibjkjhpfmmjoaa.H



namespace Go.Proofs.Ytibjkjhpfmmjoaa.H
open Go.RowKit Go.Proofs.YtibjkjhpfmmjoaaW.PrintWords Go.Proofs.YtibjkjhpfmmjoaaW.PrintLast Go.Proofs.YtibjkjhpfmmjoaaW.PrintMore Go.Proofs.Ytibjkjhpfmmjoaa.M
attribute [local go_sem] max2_int min2_int max_two min_two max_three min_three max_four min_four
set_option linter.unusedVariables false
set_option linter.unusedSimpArgs false
set_option maxRecDepth 100000
theorem ki_M (x : Int) (W : World) (base : Nat) (ok : Nat → Prop) : (Kd.int .i64).M W base ok x [.int .i64 x] := rfl
theorem reps_ints (W : World) (base : Nat) (ok : Nat → Prop) : ∀ l : List Int, Reps ((Kd.int .i64).M W base ok) (Kd.int .i64).sz l (l.map (Value.int .i64))
  | [] => Reps.none _ _
  | x :: l => Reps.one (ki_M x W base ok) (reps_ints W base ok l)
set_option maxHeartbeats 8000000 in
theorem specNear (g : Nat) (A : Option Addr) (c m k : Nat) (h n : Int) (w : World) (ho : (srcB g A m c k h).I w) (hcd : Code w g A m) (hk : k ≤ m) (hm : m ≤ 1048576) (hn0 : 0 ≤ n) (hn : n ≤ 1000000) :
    Calls Try.prog 75 #[.pointer (some ⟨g, 0, none⟩), .int .i64 n] w fun e w' => ∃ (r : Int) (k' : Nat) (h' : Int), e = .returned (.int .i64 r) ∧ k' ≤ m ∧ (-4611686018427387904 ≤ r ∧ r ≤ 1099511627776) ∧ Mod w w' (fun b => b = g) [srcB g A m c k' h'] := by
  have HS := Aside0.mk (Mod.own1 ho)
  have HC := Aside0.mk hcd
  have HN1 := Aside0.mk (fun W k1 k2 => specNext g A c m k h 14 W k1 k2 hk hm (by omega))
  have HN2 := Aside0.mk (fun k h W k1 k2 hk => specNext g A c m k h (n + 1) W k1 k2 hk hm (by omega))
  have HP := Aside0.mk (fun k h B b W k1 k2 hk k3 k4 => specPick g A c m k h B b [-1, n + 1, 1099511627776, -4611686018427387904] W k1 k2 hk hm k3 k4 (by simp) (by simp))
  clear ho hcd
  go_enter Try.func75, Try.ntmps75
  go_wp2_with (first | (go_at_call 57; refine (HN1.out _ (HS.out.at (i := 0) rfl) (HC.out.mod HS.out (fun _ h => h))).mono ?_; rintro e_ w1 ⟨r, k1, h1, rfl, hk1, hr1, hr2, hs⟩; replace HS : Aside0 (Mod _ _ _ [_]) := sM1 HS 0 [] rfl hs; clear hs; clear hr1 hr2; refine Hid.out ?_))
  refine Lib.hid ?_
  by_cases hr0 : r = 0
  · have hd0 : (r == 0) = true := by rw [hr0]; rfl
    clear hr0
    go_wp2_with (first | ((with_reducible refine gate_dst (N := 11) rfl ?_); refine wpList_stp (fun K hK => ?_); refine stp_lit (Kd.int .i64) rfl 2 (by rfl) HS (xs := [-1, n + 1, 1099511627776, -4611686018427387904]) (inner := [.int .i64 (-1), .int .i64 (n + 1), .int .i64 1099511627776, .int .i64 (-4611686018427387904)]) (by first | (go_simp; done) | (go_simp; rfl)) (fun W base ok => reps_ints W base ok _) (by simp) ?_; clear HS; intro A_l c_l w1 HS; refine hK _ _ ?_; clear hK K) | (go_at_call 74; refine (HP.out k1 h1 A_l c_l _ (HS.out.at (i := 1) rfl) (HC.out.mod HS.out (fun _ h => h)) hk1 (HS.out.at (i := 0) rfl) (fun q h1 h2 => HS.out.disj (i := 0) (j := 1) rfl rfl (by decide) q h1 h2)).mono ?_; rintro e_ w1 ⟨r2, k2, h2, rfl, hk2, hr3, hs⟩; replace HS : Aside0 (Mod _ _ _ [_, _]) := sM1 HS 1 [0] rfl hs; clear hs))
    go_ret
    refine ⟨r2, k2, h2, rfl, hk2, ?_, HS.out.sel [0] (by decide)⟩
    simp only [List.mem_cons, List.not_mem_nil, or_false] at hr3
    omega
  · have hd0 : (r == 0) = false := by simpa using hr0
    clear hr0
    go_wp2_with (first | (go_at_call 57; refine (HN2.out k1 h1 _ (HS.out.at (i := 0) rfl) (HC.out.mod HS.out (fun _ h => h)) hk1).mono ?_; rintro e_ w1 ⟨r2, k2, h2, rfl, hk2, hr3, hr4, hs⟩; replace HS : Aside0 (Mod _ _ _ [_]) := sM1 HS 0 [] rfl hs; clear hs))
    go_ret
    refine ⟨r2, k2, h2, rfl, hk2, ?_, HS.out⟩
    have := hr3 (by omega)
    omega
end Go.Proofs.Ytibjkjhpfmmjoaa.H



namespace Go.Proofs.Ytibjkjhpfmmjoaa.H
open Go.RowKit Go.Proofs.YtibjkjhpfmmjoaaW.PrintWords Go.Proofs.YtibjkjhpfmmjoaaW.PrintLast Go.Proofs.YtibjkjhpfmmjoaaW.PrintMore Go.Proofs.Ytibjkjhpfmmjoaa.M
attribute [local go_sem] max2_int min2_int max_two min_two max_three min_three max_four min_four
set_option linter.unusedVariables false
set_option linter.unusedSimpArgs false
set_option maxRecDepth 100000
theorem Mod.sx {w W : World} {S : Nat → Prop} {L : List As} (h : Mod w W S L) (i : Nat) {ad : Addr} {c : Nat} {u : List ByteArray} (hi : L[i]? = some (rowS (some ad) c u)) {j : Nat} {s : ByteArray} (hj : u[j]? = some s) : W.cell? (ad.add j) = some (.string s) := by
  obtain ⟨h1, h2⟩ := List.getElem?_eq_some_iff.1 hj
  obtain ⟨ad', e, h0⟩ := str_at (h.reads i hi) j h1
  cases e
  rwa [List.getD_eq_getElem?_getD, hj] at h0
end Go.Proofs.Ytibjkjhpfmmjoaa.H


namespace Go.Proofs.Ytibjkjhpfmmjoaa.H
open Go.RowKit Go.Proofs.YtibjkjhpfmmjoaaW.PrintWords Go.Proofs.YtibjkjhpfmmjoaaW.PrintLast Go.Proofs.YtibjkjhpfmmjoaaW.PrintMore Go.Proofs.Ytibjkjhpfmmjoaa.M
attribute [local go_sem] max2_int min2_int max_two min_two max_three min_three max_four min_four
set_option linter.unusedVariables false
set_option linter.unusedSimpArgs false
set_option maxRecDepth 100000
set_option maxHeartbeats 8000000 in
theorem specDrawFrac (g : Nat) (A : Option Addr) (c m k : Nat) (h : Int) (w : World) (ho : (srcB g A m c k h).I w) (hcd : Code w g A m) (hk : k ≤ m) (hm : m ≤ 1048576) :
    Calls Try.prog 138 #[.pointer (some ⟨g, 0, none⟩)] w fun e w' => ∃ (x y : Int) (k' : Nat) (h' : Int), e = .returned (.agg #[.int .i64 x, .int .i64 y]) ∧ k' ≤ m ∧ Mod w w' (fun b => b = g) [srcB g A m c k' h'] := by
  have HS := Aside0.mk (Mod.own1 ho)
  have HC := Aside0.mk hcd
  have HN := Aside0.mk (fun k h n W k1 k2 hk h1 => specNext g A c m k h n W k1 k2 hk hm h1)
  have HP := Aside0.mk (fun k h B b W k1 k2 hk k3 k4 => specPick g A c m k h B b [1, 1, 1, 2, 3, 4, 6] W k1 k2 hk hm k3 k4 (by decide) (by decide))
  clear ho hcd
  go_enter Try.func138, Try.ntmps138
  go_wp2_with (first | ((with_reducible refine gate_dst (N := 2) rfl ?_); refine bxL 34 #[(.int .i64 0), (.int .i64 0)] HS ?_; clear HS; intro g_r w1 hg_r HS) | (go_at_call 57; refine (HN.out k h 19 _ (HS.out.at (i := 1) rfl) (HC.out.mod (HS.out.sel [0] (by decide)) (fun _ h => h)) hk (by omega)).mono ?_; rintro e_ w1 ⟨x, k1, h1, rfl, hk1, hr1, hr2, hs⟩; replace HS : Aside0 (Mod _ _ _ [_, _]) := sM1 HS 1 [0] rfl hs; clear hs; obtain ⟨hx0, hx1⟩ := hr1 (by omega); clear hr1 hr2) | ((with_reducible refine gate_dst (N := 10) rfl ?_); refine wpList_stp (fun K hK => ?_); refine stp_lit (Kd.int .i64) rfl 2 (by rfl) HS (xs := [1, 1, 1, 2, 3, 4, 6]) (inner := [.int .i64 1, .int .i64 1, .int .i64 1, .int .i64 2, .int .i64 3, .int .i64 4, .int .i64 6]) (by first | (go_simp; done) | (go_simp; rfl)) (fun W base ok => reps_ints W base ok _) (by simp) ?_; clear HS; intro A_l c_l w1 HS; refine hK _ _ ?_; clear hK K) | (go_at_call 74; refine (HP.out k1 h1 A_l c_l _ (HS.out.at (i := 1) rfl) (HC.out.mod HS.out (fun _ h => h)) hk1 (HS.out.at (i := 0) rfl) (fun q h1 h2 => HS.out.disj (i := 0) (j := 1) rfl rfl (by decide) q h1 h2)).mono ?_; rintro e_ w1 ⟨y, k2, h2, rfl, hk2, hr, hs⟩; replace HS : Aside0 (Mod _ _ _ [_, _, _]) := sM1 HS 1 [0, 2] rfl hs; clear hs; obtain ⟨hy0, hy1⟩ : 1 ≤ y ∧ y ≤ 6 := (by simp only [List.mem_cons, List.not_mem_nil, or_false] at hr; omega); clear hr) | (go_at_call 139; refine (specFrac (x - 9) y _ (by omega) (by omega) (by omega) (by omega)).mono ?_; rintro e_ w1 ⟨rfl, hb⟩; replace HS := sB HS hb; clear hb) | ((with_reducible refine gate_dst (N := 3) rfl ?_); refine bxL 34 #[(.int .i64 0), (.int .i64 0)] HS ?_; clear HS; intro g_q w1 hg_q HS) | ((with_reducible refine gate_store (t := 34) (p := 3) rfl ?_); refine stL HS 0 0 #[.int .i64 (sfrac (frac (x - 9) y)).1.1, .int .i64 (sfrac (frac (x - 9) y)).1.2] rfl rfl rfl rfl rfl ?_; clear HS; intro w1 HS; have f1_ := HS.out.c 0 0 (v := .int .i64 (sfrac (frac (x - 9) y)).1.1) rfl rfl; have f2_ := HS.out.c 0 1 (v := .int .i64 (sfrac (frac (x - 9) y)).1.2) rfl rfl) | ((with_reducible refine gate_store (t := 34) (p := 2) rfl ?_); refine stL HS 3 0 #[.int .i64 (sfrac (frac (x - 9) y)).1.1, .int .i64 (sfrac (frac (x - 9) y)).1.2] rfl rfl rfl rfl rfl ?_; clear HS f1_ f2_; intro w1 HS))
  refine bodyPost_ret (results_cell_row rfl _ _ g_r 34 #[.int .i64 (sfrac (frac (x - 9) y)).1.1, .int .i64 (sfrac (frac (x - 9) y)).1.2] (0, 0) _ rfl (HS.out.at (i := 3) rfl) Try.underlying34 rfl (by kernel_rfl)) rfl ?_
  exact ⟨_, _, k2, h2, rfl, hk2, HS.out.sel [1] (by decide)⟩
set_option maxHeartbeats 8000000 in
theorem specLike (g : Nat) (A : Option Addr) (c m k : Nat) (h : Int) (w : World) (ho : (srcB g A m c k h).I w) (hcd : Code w g A m) (hk : k ≤ m) (hm : m ≤ 1048576) :
    Calls Try.prog 84 #[.pointer (some ⟨g, 0, none⟩)] w fun e w' => ∃ (d n : Int) (B : Option Addr) (b k' : Nat) (h' : Int), e = .returned (.agg #[.int .i64 d, .int .i64 n, .slice B 0 b]) ∧ 1 ≤ d ∧ d ≤ 3 ∧ 1 ≤ n ∧ n ≤ 6 ∧ k' ≤ m ∧ Mod w w' (fun b => b = g) [srcB g A m c k' h'] := by
  have HS := Aside0.mk (Mod.own1 ho)
  have HC := Aside0.mk hcd
  have HP := Aside0.mk (fun k h B b W k1 k2 hk k3 k4 => specPick g A c m k h B b [1, 2, 2, 2, 3] W k1 k2 hk hm k3 k4 (by decide) (by decide))
  have HP2 := Aside0.mk (fun k h B b (x : Int) W k1 k2 hk k3 k4 => specPick g A c m k h B b [1, 2, 2, 3, 3, 4, x] W k1 k2 hk hm k3 k4 (by simp) (by simp))
  clear ho hcd
  go_enter Try.func84, Try.ntmps84
  have tk1_ : True := trivial
  go_wp2_with (first | ((with_reducible refine gate_dst (N := 2) rfl ?_); refine bxL 26 #[(.int .i64 0), (.int .i64 0), (.slice none 0 0)] HS ?_; clear HS; intro g_r w1 hg_r HS) | ((with_reducible refine gate_dst (N := 5) rfl ?_); refine wpList_stp (fun K hK => ?_); refine stp_lit (Kd.int .i64) rfl 2 (by rfl) HS (xs := [1, 2, 2, 2, 3]) (inner := [.int .i64 1, .int .i64 2, .int .i64 2, .int .i64 2, .int .i64 3]) (by first | (go_simp; done) | (go_simp; rfl)) (fun W base ok => reps_ints W base ok _) (by simp) ?_; clear HS; intro A_l c_l w1 HS; refine hK _ _ ?_; clear hK K) | (go_at_call 74; clear tk1_; refine (HP.out k h A_l c_l _ (HS.out.at (i := 2) rfl) (HC.out.mod HS.out (fun _ h => h)) hk (HS.out.at (i := 0) rfl) (fun q h1 h2 => HS.out.disj (i := 0) (j := 2) rfl rfl (by decide) q h1 h2)).mono ?_; rintro e_ w1 ⟨d, k1, h1, rfl, hk1, hr, hs⟩; replace HS : Aside0 (Mod _ _ _ [_, _, _]) := sM1 HS 2 [0, 1] rfl hs; clear hs; obtain ⟨hd0, hd1⟩ : 1 ≤ d ∧ d ≤ 3 := (by simp only [List.mem_cons, List.not_mem_nil, or_false] at hr; omega); clear hr) | ((with_reducible refine gate_dst (N := 11) rfl ?_); refine wpList_stp (fun K hK => ?_); refine stp_lit (Kd.int .i64) rfl 2 (by rfl) HS (xs := [1, 2, 2, 3, 3, 4, 7 - d]) (inner := [.int .i64 1, .int .i64 2, .int .i64 2, .int .i64 3, .int .i64 3, .int .i64 4, .int .i64 (7 - d)]) (by first | (go_simp; done) | (go_simp; rfl)) (fun W base ok => reps_ints W base ok _) (by simp) ?_; clear HS; intro A_l2 c_l2 w1 HS; refine hK _ _ ?_; clear hK K) | (go_at_call 74; refine (HP2.out k1 h1 A_l2 c_l2 (7 - d) _ (HS.out.at (i := 1) rfl) (HC.out.mod HS.out (fun _ h => h)) hk1 (HS.out.at (i := 0) rfl) (fun q h1 h2 => HS.out.disj (i := 0) (j := 1) rfl rfl (by decide) q h1 h2)).mono ?_; rintro e_ w1 ⟨n, k2, h2, rfl, hk2, hr, hs⟩; replace HS : Aside0 (Mod _ _ _ [_, _, _, _]) := sM1 HS 1 [0, 2, 3] rfl hs; clear hs; obtain ⟨hn0, hn1⟩ : 1 ≤ n ∧ n ≤ 6 := (by simp only [List.mem_cons, List.not_mem_nil, or_false] at hr; omega); clear hr) | ((with_reducible refine gate_dst (N := 13) rfl ?_); refine wpList_stp (fun K hK => ?_); refine stp_lit (KT) rfl 38 (by rfl) HS (xs := ([] : Ts)) (inner := []) (by first | (go_simp; done) | (go_simp; rfl)) (fun W base ok => Reps.none _ _) (by simp) ?_; clear HS; intro A_o c_o w1 HS; refine hK _ _ ?_; clear hK K) | ((with_reducible refine gate_store (t := 26) (p := 2) rfl ?_); refine stL HS 4 0 #[(.int .i64 d), (.int .i64 n), (.slice A_o (([] : Ts)).length c_o)] rfl rfl rfl rfl rfl ?_; clear HS; intro w1 HS))
  refine bodyPost_ret (results_cell_row rfl _ _ g_r 26 #[(.int .i64 d), (.int .i64 n), (.slice A_o (([] : Ts)).length c_o)] (0, 0) _ rfl (HS.out.at (i := 4) rfl) Try.underlying26 rfl (by kernel_rfl)) rfl ?_
  exact ⟨d, n, A_o, c_o, k2, h2, rfl, hd0, hd1, hn0, hn1, hk2, HS.out.sel [1] (by decide)⟩
set_option maxHeartbeats 8000000 in
theorem specFit (d n : Int) (A : Option Addr) (m c : Nat) (w : World) (hd0 : 1 ≤ d) (hd1 : d ≤ 3) (hn0 : 1 ≤ n) (hn1 : n ≤ 6) :
    Calls Try.prog 83 #[.agg #[.int .i64 d, .int .i64 n, .slice A m c]] w fun e w' => ∃ n' : Int, e = .returned (.agg #[.int .i64 d, .int .i64 n', .slice A m c]) ∧ 1 ≤ n' ∧ n' ≤ 5 ∧ (d = 3 → n' ≤ 4) ∧ Below w.heap.size w w' := by
  have HS := Aside0.mk (Sep.refl w)
  by_cases h3 : d = 3
  · subst h3
    go_enter Try.func83, Try.ntmps83
    go_wp2_with (first | ((with_reducible refine gate_dst (N := 1) rfl ?_); refine bxL 26 #[.int .i64 3, .int .i64 n, .slice A m c] HS ?_; clear HS; intro g_x w1 hg_x HS) | ((with_reducible refine gate_dst (N := 2) rfl ?_); refine bxL 26 #[(.int .i64 0), (.int .i64 0), (.slice none 0 0)] HS ?_; clear HS; intro g_r w1 hg_r HS; have f1_ := HS.out.c 1 1 (v := .int .i64 n) rfl rfl) | ((with_reducible refine gate_store (t := 2) (p := 6) rfl ?_); refine stL HS 1 1 #[.int .i64 3, (.int .i64 _), .slice A m c] rfl rfl rfl rfl rfl ?_; clear HS f1_; intro w1 HS; have f1_ := HS.out.c 1 0 (v := .int .i64 3) rfl rfl; have f2_ := HS.out.c 1 1 (v := (.int .i64 _)) rfl rfl) | ((with_reducible refine gate_store (t := 2) (p := 13) rfl ?_); refine stL HS 1 1 #[.int .i64 3, (.int .i64 _), .slice A m c] rfl rfl rfl rfl rfl ?_; clear HS f1_ f2_; intro w1 HS; have f1_ := HS.out.c 1 0 (v := .int .i64 3) rfl rfl; have f2_ := HS.out.c 1 1 (v := (.int .i64 _)) rfl rfl; have f3_ := HS.out.c 1 2 (v := .slice A m c) rfl rfl) | ((with_reducible refine gate_store (t := 26) (p := 2) rfl ?_); refine stL HS 0 0 #[.int .i64 3, (.int .i64 _), .slice A m c] rfl rfl rfl rfl rfl ?_; clear HS f1_ f2_ f3_; intro w1 HS))
    all_goals
      refine bodyPost_ret (results_cell_row rfl _ _ g_r 26 #[.int .i64 3, (.int .i64 _), .slice A m c] (0, 0) _ rfl (HS.out.at (i := 0) rfl) Try.underlying26 rfl (by kernel_rfl)) rfl ?_
      first | refine ⟨_, rfl, ?_, ?_, ?_, HS.out.below⟩ | refine ⟨_, rfl, ?_, ?_, HS.out.below⟩
      all_goals (try intro h_)
      all_goals (repeat' split)
      all_goals omega
  · have hb : (d == 3) = false := by simpa using h3
    go_enter Try.func83, Try.ntmps83
    go_wp2_with (first | ((with_reducible refine gate_dst (N := 1) rfl ?_); refine bxL 26 #[.int .i64 d, .int .i64 n, .slice A m c] HS ?_; clear HS; intro g_x w1 hg_x HS) | ((with_reducible refine gate_dst (N := 2) rfl ?_); refine bxL 26 #[(.int .i64 0), (.int .i64 0), (.slice none 0 0)] HS ?_; clear HS; intro g_r w1 hg_r HS; have f1_ := HS.out.c 1 1 (v := .int .i64 n) rfl rfl) | ((with_reducible refine gate_store (t := 2) (p := 6) rfl ?_); refine stL HS 1 1 #[.int .i64 d, (.int .i64 _), .slice A m c] rfl rfl rfl rfl rfl ?_; clear HS f1_; intro w1 HS; have f1_ := HS.out.c 1 0 (v := .int .i64 d) rfl rfl; have f2_ := HS.out.c 1 1 (v := (.int .i64 _)) rfl rfl; have f3_ := HS.out.c 1 2 (v := .slice A m c) rfl rfl) | ((with_reducible refine gate_store (t := 26) (p := 2) rfl ?_); refine stL HS 0 0 #[.int .i64 d, (.int .i64 _), .slice A m c] rfl rfl rfl rfl rfl ?_; clear HS f1_ f2_ f3_; intro w1 HS))
    all_goals
      refine bodyPost_ret (results_cell_row rfl _ _ g_r 26 #[.int .i64 d, (.int .i64 _), .slice A m c] (0, 0) _ rfl (HS.out.at (i := 0) rfl) Try.underlying26 rfl (by kernel_rfl)) rfl ?_
      first | refine ⟨_, rfl, ?_, ?_, ?_, HS.out.below⟩ | refine ⟨_, rfl, ?_, ?_, HS.out.below⟩
      all_goals (try intro h_)
      all_goals (repeat' split)
      all_goals omega
set_option maxHeartbeats 16000000 in
theorem specDrawOf (g : Nat) (A : Option Addr) (c m k : Nat) (h : Int) (d n : Nat) (B0 : Option Addr) (m0 c0 : Nat) (w : World) (ho : (srcB g A m c k h).I w) (hcd : Code w g A m) (hk : k ≤ m) (hm : m ≤ 1048576) (hd1 : 1 ≤ d) (hd : d ≤ 3) (hn : n ≤ 5) :
    Calls Try.prog 112 #[.pointer (some ⟨g, 0, none⟩), .agg #[.int .i64 (d : Int), .int .i64 (n : Int), .slice B0 m0 c0]] w fun e w' => ∃ (B : Option Addr) (b : Nat) (l : Ts) (k' : Nat) (h' : Int), e = .returned (.agg #[.int .i64 (d : Int), .int .i64 (n : Int), .slice B l.length b]) ∧ k' ≤ m ∧ bnd l = true ∧ l.length ≤ 100000 ∧ Mod w w' (fun b => b = g) [srcB g A m c k' h', rowT B b l] := by
  have HS := Aside0.mk (Mod.own1 ho)
  have HC := Aside0.mk hcd
  have HN := Aside0.mk (fun k h n W k1 k2 hk h1 => specNext g A c m k h n W k1 k2 hk hm h1)
  have HF := Aside0.mk (fun k h W k1 k2 hk => specDrawFrac g A c m k h W k1 k2 hk hm)
  have HWD := Aside0.mk (fun j X (h : j ≤ 5) => specWordsS d j X hd (by omega))
  have HWL := Aside0.mk (fun j (h : j ≤ 5) => wordsN_le (d := d) (n := j) hd (by omega))
  have HSZ := Aside0.mk (fun (j i : Nat) (s : ByteArray) (h : (wordsN d j)[i]? = some s) => (wordsN_size (List.mem_of_getElem? h) : s.size = j))
  clear ho hcd
  go_enter Try.func112, Try.ntmps112
  go_wp2_with (first | ((with_reducible refine gate_dst (N := 3) rfl ?_); refine bxL 26 #[.int .i64 (d : Int), .int .i64 (n : Int), .slice B0 m0 c0] HS ?_; clear HS; intro g_x w1 hg_x HS) | ((with_reducible refine gate_dst (N := 4) rfl ?_); refine bxL 26 #[(.int .i64 0), (.int .i64 0), (.slice none 0 0)] HS ?_; clear HS; intro g_r w1 hg_r HS; have f1_ := HS.out.c 1 0 (v := .int .i64 (d : Int)) rfl rfl; have f2_ := HS.out.c 1 1 (v := .int .i64 (n : Int)) rfl rfl; have f3_ := HS.out.c 1 2 (v := .slice B0 m0 c0) rfl rfl) | (go_at_call 62; refine (specEmpty d n B0 m0 c0 _).mono ?_; rintro e_ w1 ⟨B, b, rfl, hs⟩; replace HS := sN1 HS hs; clear hs f1_ f2_ f3_) | ((with_reducible refine gate_dst (N := 5) rfl ?_); refine bxL 26 #[(.int .i64 0), (.int .i64 0), (.slice none 0 0)] HS ?_; clear HS; intro g_q w1 hg_q HS) | ((with_reducible refine gate_store (t := 26) (p := 5) rfl ?_); refine stL HS 0 0 #[.int .i64 (d : Int), .int .i64 (n : Int), .slice B ([] : Ts).length b] rfl rfl rfl rfl rfl ?_; clear HS; intro w1 HS))
  go_loopw [6] (fun v w' => ∃ (j : Nat) (B : Option Addr) (b : Nat) (z : Ts) (k1 : Nat) (h1 : Int), j ≤ n + 1 ∧ v = .int .i64 (j : Int) ∧ k1 ≤ m ∧ z.length ≤ j * 6561 ∧ Aside0 (∀ t ∈ z, t.1.size ≤ 5) ∧ Aside0 (Mod w w' (srcB g A m c k h).S [bx g_q 26 #[.int .i64 (d : Int), .int .i64 (n : Int), .slice B z.length b], rowT B b z, bx g_r 26 #[(.int .i64 0), (.int .i64 0), (.slice none 0 0)], bx g_x 26 #[.int .i64 (d : Int), .int .i64 (n : Int), .slice B0 m0 c0], bx g 98 #[.slice A m c, .int .i64 (k1 : Int), .int .u64 h1]])) (fun v _ => n + 1 - (intOf v).toNat)
  case atStart => exact ⟨0, B, b, [], k, h, by omega, rfl, hk, by simp, ⟨fun t ht => by cases ht⟩, HS⟩
  case round =>
    clear HS
    obtain ⟨j, B, b, z, k1, h1, hj, rfl, hk1, hz, HZ, HS⟩ := hrel
    by_cases hlt : j ≤ n
    · have HWJ := Aside0.mk (fun X => HWD.out j X (by omega))
      have hul : (wordsN d j).length ≤ 6561 := HWL.out j (by omega)
      have HSJ := Aside0.mk (fun i s h => HSZ.out j i s h)
      obtain ⟨us, hus⟩ : ∃ us, us = wordsN d j := ⟨_, rfl⟩
      rw [← hus] at HWJ hul HSJ
      clear hus
      have f1_ := HS.out.c 3 1 (v := .int .i64 (n : Int)) rfl rfl
      have f2_ := HS.out.c 3 0 (v := .int .i64 (d : Int)) rfl rfl
      go_wp2_with (first | (go_at_call 118; refine (HWJ.out _).mono ?_; rintro e_ w1 ⟨B1, b1, rfl, hs⟩; replace HS := sN1 HS hs; clear hs f1_ f2_))
      go_loopw [8] (fun v w' => ∃ (i : Nat) (B : Option Addr) (b : Nat) (z : Ts) (k1 : Nat) (h1 : Int), i ≤ us.length ∧ v = .int .i64 (i : Int) ∧ k1 ≤ m ∧ z.length ≤ j * 6561 + i ∧ Aside0 (∀ t ∈ z, t.1.size ≤ 5) ∧ Aside0 (Mod w w' (srcB g A m c k h).S [rowS B1 b1 us, bx g_q 26 #[.int .i64 (d : Int), .int .i64 (n : Int), .slice B z.length b], rowT B b z, bx g_r 26 #[(.int .i64 0), (.int .i64 0), (.slice none 0 0)], bx g_x 26 #[.int .i64 (d : Int), .int .i64 (n : Int), .slice B0 m0 c0], bx g 98 #[.slice A m c, .int .i64 (k1 : Int), .int .u64 h1]])) (fun v _ => us.length - (intOf v).toNat)
      case atStart => exact ⟨0, B, b, z, k1, h1, by omega, rfl, hk1, by omega, HZ, HS⟩
      case round =>
        clear HS HZ
        obtain ⟨i, B, b, z, k1, h1, hi, rfl, hk1, hz, HZ, HS⟩ := hrel
        by_cases hlt2 : i < us.length
        · obtain ⟨ad, ea, h_⟩ := str_at (HS.out.reads 0 rfl) i hlt2
          clear h_
          cases ea
          obtain ⟨u, hu⟩ : ∃ s, us[i]? = some s := ⟨_, List.getElem?_eq_getElem hlt2⟩
          have HE := Aside0.mk hu
          have hus := HSJ.out i u hu
          have hu5 : u.size ≤ 5 := by omega
          clear hu hus
          obtain ⟨p, hp⟩ : ∃ p : Nat, p = us.length / 3 := ⟨_, rfl⟩
          have hp9 : p ≤ 6561 := by omega
          have hq3 : (us.length : Int) / 3 = (p : Int) := by omega
          clear hp
          by_cases h4 : 4 < us.length
          · have h4b : ((4 : Int) < (us.length : Int)) := by omega
            have tk2_ : True := trivial
            go_wp2_with (first | (go_at_call 57; clear tk2_; refine (HN.out k1 h1 ((p : Int) + 1) _ (HS.out.at (i := 5) rfl) (HC.out.mod (HS.out.sel [5] (by decide)) (fun _ h => h)) hk1 (by omega)).mono ?_; rintro e_ w1 ⟨r1, k2, h2, rfl, hk2, hr1, hr2, hs⟩; replace HS : Aside0 (Mod _ _ _ [_, _, _, _, _, _]) := sM1 HS 5 [0, 1, 2, 3, 4] rfl hs; clear hs; clear hr1 hr2; have hd_ : (0 < r1) ∨ ¬ (0 < r1) := (by omega); rcases hd_ with hr1_ | hr1_) | (go_at_call 57; refine (HN.out k2 h2 3 _ (HS.out.at (i := 0) rfl) (HC.out.mod (HS.out.sel [5] (by decide)) (fun _ h => h)) hk2 (by omega)).mono ?_; rintro e_ w1 ⟨q1, k3, h3, rfl, hk3, hr1, hr2, hs⟩; replace HS : Aside0 (Mod _ _ _ [_, _, _, _, _, _]) := sM1 HS 0 [1, 2, 3, 4, 5] rfl hs; clear hs; clear hr1 hr2; have hd_ : (q1 == 0) = true ∨ (q1 == 0) = false := (by cases (q1 == 0) <;> simp); rcases hd_ with hq1_ | hq1_) | (go_at_call 138; refine (HF.out k3 h3 _ (HS.out.at (i := 0) rfl) (HC.out.mod (HS.out.sel [5] (by decide)) (fun _ h => h)) hk3).mono ?_; rintro e_ w1 ⟨x1, y1, k4, h4, rfl, hk4, hs⟩; replace HS : Aside0 (Mod _ _ _ [_, _, _, _, _, _]) := sM1 HS 0 [1, 2, 3, 4, 5] rfl hs; clear hs; have hd_ : (x1 == 0) = true ∨ (x1 == 0) = false := (by cases (x1 == 0) <;> simp); rcases hd_ with hx1_ | hx1_) | ((with_reducible refine gate_dst (N := 9) rfl ?_); refine bxL 34 #[(.int .i64 0), (.int .i64 0)] HS ?_; clear HS; intro g_f w1 hg_f HS) | ((with_reducible refine gate_store (t := 34) (p := 9) rfl ?_); refine stL HS 0 0 #[.int .i64 x1, .int .i64 y1] rfl rfl rfl rfl rfl ?_; clear HS; intro w1 HS; have f1_ := HS.out.c 0 0 (v := .int .i64 x1) rfl rfl; have f2_ := HS.out.c 0 1 (v := .int .i64 y1) rfl rfl) | (go_at_call 108; refine (specZero _ _ _).mono ?_; rintro e_ w1 ⟨rfl, hb⟩; replace HS := sB HS hb; clear hb f1_ f2_))
            repeat (focus ((go_roundw; (case rel => first | exact ⟨i + 1, B, b, z, _, _, by omega, by go_num, by assumption, by omega, HZ, sX HS [1, 2, 3, 4, 5, 0]⟩ | exact ⟨i + 1, B, b, z, _, _, by omega, by go_num, by assumption, by omega, HZ, sX HS [2, 3, 4, 5, 6, 1]⟩); (case measure => simp [intOf]; omega)); done))
            replace HS := sD HS
            refine ps (.p 0 (.p 2 (.p 3 (.p 4 (.t 1 (.t 5 (.t 6 (.p 7 (.e 8 (.d 9 (.p 10 (.d 11 .done)))))))))))) (fun w' => w'.cell? ⟨g_q, 2, none⟩ = some (.slice B z.length b) ∧ w'.cell? (ad.add i) = some (.string u) ∧ w'.cell? ⟨g_f, 0, none⟩ = some (.int .i64 x1) ∧ w'.cell? ⟨g_f, 1, none⟩ = some (.int .i64 y1)) [9, 11] ⟨HS.out.c 3 2 (v := .slice B z.length b) rfl rfl, HS.out.sx 2 rfl HE.out, HS.out.c 0 0 (v := .int .i64 x1) rfl rfl, HS.out.c 0 1 (v := .int .i64 y1) rfl rfl⟩ (fun hHeld => ?_)
            repeat (first | ((with_reducible refine gate_p ?_); refine rp rfl rfl ?_) | ((with_reducible refine gate_t ?_); refine rt rfl rfl hHeld ?_))
            refine run_e rfl (fun K hK => ?_)
            refine stp_lit (KT) rfl 38 (by rfl) HS (xs := [((u, x1, y1) : Tm)]) (inner := [.string u, .int .i64 x1, .int .i64 y1]) (by first | (go_simp; done) | (go_simp; rfl)) (fun W base ok => Reps.snoc (Reps.none _ _) (KT_M (u, x1, y1) W base ok) rfl) (by simp) ?_
            clear HS
            intro A_t c_t w1 HS
            refine ge hK ⟨HS.out.c 4 2 (v := .slice B z.length b) rfl rfl, HS.out.sx 3 rfl HE.out, HS.out.c 1 0 (v := .int .i64 x1) rfl rfl, HS.out.c 1 1 (v := .int .i64 y1) rfl rfl⟩ (fun hHeld => ?_)
            clear hK K
            refine run_d rfl (fun K hK => ?_)
            refine stp_rows KT rfl (fun _ _ _ _ _ h => h) (by rfl) HS 5 rfl (.tmp 51) (.tmp 58) 24 (.agg #[(.string ⟨#[]⟩), (.int .i64 0), (.int .i64 0)]) 32 rfl Try.underlying24 infoTerm (by kernel_rfl) [((u, x1, y1) : Tm)] rfl rfl (HS.out.reads 0 rfl) (by show (z.length + 1) * 32 ≤ _; omega) ?_
            clear HS
            intro A_y' c_y' y' w1 Ny' HS
            simp only [List.set_cons_zero, List.set_cons_succ] at HS
            refine gd hK ?_
            clear hK K
            repeat (first | ((with_reducible refine gate_p ?_); refine rp rfl rfl ?_) | ((with_reducible refine gate_t ?_); refine rt rfl rfl hHeld ?_))
            refine run_d rfl (fun K hK => ?_)
            refine st1 HS 4 2 #[.int .i64 (d : Int), .int .i64 (n : Int), (.slice A_y' y'.length c_y')] rfl rfl rfl rfl rfl ?_
            clear HS
            intro w1 HS
            refine goD hK rfl ?_
            clear hK K
            refine run_done ?_
            clear hHeld
            go_wp2
            repeat (focus ((go_roundw; (case rel => first | exact ⟨i + 1, B, b, z, _, _, by omega, by go_num, by assumption, by omega, HZ, sX HS [1, 2, 3, 4, 5, 0]⟩ | exact ⟨i + 1, B, b, z, _, _, by omega, by go_num, by assumption, by omega, HZ, sX HS [2, 3, 4, 5, 6, 1]⟩); (case measure => simp [intOf]; omega)); done))
            have HZ2 := Aside0.mk (show ∀ t ∈ y', t.1.size ≤ 5 by rw [Ny'.out]; intro t ht; rcases List.mem_append.1 ht with ht | ht; exact HZ.out t ht; rw [List.mem_singleton.1 ht]; exact hu5)
            have hyl : y'.length ≤ j * 6561 + (i + 1) := by rw [Ny'.out, List.length_append, List.length_singleton]; omega
            go_roundw
            case rel => exact ⟨i + 1, A_y', c_y', y', k4, h4, by omega, by go_num, hk4, hyl, HZ2, sX HS [3, 4, 5, 6, 7, 2]⟩
            case measure => simp [intOf]; omega
          · have h4b : ¬ ((4 : Int) < (us.length : Int)) := by omega
            go_wp2_with (first | (go_at_call 57; refine (HN.out k1 h1 3 _ (HS.out.at (i := 5) rfl) (HC.out.mod (HS.out.sel [5] (by decide)) (fun _ h => h)) hk1 (by omega)).mono ?_; rintro e_ w1 ⟨q1, k3, h3, rfl, hk3, hr1, hr2, hs⟩; replace HS : Aside0 (Mod _ _ _ [_, _, _, _, _, _]) := sM1 HS 5 [0, 1, 2, 3, 4] rfl hs; clear hs; clear hr1 hr2; have hd_ : (q1 == 0) = true ∨ (q1 == 0) = false := (by cases (q1 == 0) <;> simp); rcases hd_ with hq1_ | hq1_) | (go_at_call 138; refine (HF.out k3 h3 _ (HS.out.at (i := 0) rfl) (HC.out.mod (HS.out.sel [5] (by decide)) (fun _ h => h)) hk3).mono ?_; rintro e_ w1 ⟨x1, y1, k4, h4, rfl, hk4, hs⟩; replace HS : Aside0 (Mod _ _ _ [_, _, _, _, _, _]) := sM1 HS 0 [1, 2, 3, 4, 5] rfl hs; clear hs; have hd_ : (x1 == 0) = true ∨ (x1 == 0) = false := (by cases (x1 == 0) <;> simp); rcases hd_ with hx1_ | hx1_) | ((with_reducible refine gate_dst (N := 9) rfl ?_); refine bxL 34 #[(.int .i64 0), (.int .i64 0)] HS ?_; clear HS; intro g_f w1 hg_f HS) | ((with_reducible refine gate_store (t := 34) (p := 9) rfl ?_); refine stL HS 0 0 #[.int .i64 x1, .int .i64 y1] rfl rfl rfl rfl rfl ?_; clear HS; intro w1 HS; have f1_ := HS.out.c 0 0 (v := .int .i64 x1) rfl rfl; have f2_ := HS.out.c 0 1 (v := .int .i64 y1) rfl rfl) | (go_at_call 108; refine (specZero _ _ _).mono ?_; rintro e_ w1 ⟨rfl, hb⟩; replace HS := sB HS hb; clear hb f1_ f2_))
            repeat (focus ((go_roundw; (case rel => first | exact ⟨i + 1, B, b, z, _, _, by omega, by go_num, by assumption, by omega, HZ, sX HS [1, 2, 3, 4, 5, 0]⟩ | exact ⟨i + 1, B, b, z, _, _, by omega, by go_num, by assumption, by omega, HZ, sX HS [2, 3, 4, 5, 6, 1]⟩); (case measure => simp [intOf]; omega)); done))
            replace HS := sD HS
            refine ps (.p 0 (.p 2 (.p 3 (.p 4 (.t 1 (.t 5 (.t 6 (.p 7 (.e 8 (.d 9 (.p 10 (.d 11 .done)))))))))))) (fun w' => w'.cell? ⟨g_q, 2, none⟩ = some (.slice B z.length b) ∧ w'.cell? (ad.add i) = some (.string u) ∧ w'.cell? ⟨g_f, 0, none⟩ = some (.int .i64 x1) ∧ w'.cell? ⟨g_f, 1, none⟩ = some (.int .i64 y1)) [9, 11] ⟨HS.out.c 3 2 (v := .slice B z.length b) rfl rfl, HS.out.sx 2 rfl HE.out, HS.out.c 0 0 (v := .int .i64 x1) rfl rfl, HS.out.c 0 1 (v := .int .i64 y1) rfl rfl⟩ (fun hHeld => ?_)
            repeat (first | ((with_reducible refine gate_p ?_); refine rp rfl rfl ?_) | ((with_reducible refine gate_t ?_); refine rt rfl rfl hHeld ?_))
            refine run_e rfl (fun K hK => ?_)
            refine stp_lit (KT) rfl 38 (by rfl) HS (xs := [((u, x1, y1) : Tm)]) (inner := [.string u, .int .i64 x1, .int .i64 y1]) (by first | (go_simp; done) | (go_simp; rfl)) (fun W base ok => Reps.snoc (Reps.none _ _) (KT_M (u, x1, y1) W base ok) rfl) (by simp) ?_
            clear HS
            intro A_t c_t w1 HS
            refine ge hK ⟨HS.out.c 4 2 (v := .slice B z.length b) rfl rfl, HS.out.sx 3 rfl HE.out, HS.out.c 1 0 (v := .int .i64 x1) rfl rfl, HS.out.c 1 1 (v := .int .i64 y1) rfl rfl⟩ (fun hHeld => ?_)
            clear hK K
            refine run_d rfl (fun K hK => ?_)
            refine stp_rows KT rfl (fun _ _ _ _ _ h => h) (by rfl) HS 5 rfl (.tmp 51) (.tmp 58) 24 (.agg #[(.string ⟨#[]⟩), (.int .i64 0), (.int .i64 0)]) 32 rfl Try.underlying24 infoTerm (by kernel_rfl) [((u, x1, y1) : Tm)] rfl rfl (HS.out.reads 0 rfl) (by show (z.length + 1) * 32 ≤ _; omega) ?_
            clear HS
            intro A_y' c_y' y' w1 Ny' HS
            simp only [List.set_cons_zero, List.set_cons_succ] at HS
            refine gd hK ?_
            clear hK K
            repeat (first | ((with_reducible refine gate_p ?_); refine rp rfl rfl ?_) | ((with_reducible refine gate_t ?_); refine rt rfl rfl hHeld ?_))
            refine run_d rfl (fun K hK => ?_)
            refine st1 HS 4 2 #[.int .i64 (d : Int), .int .i64 (n : Int), (.slice A_y' y'.length c_y')] rfl rfl rfl rfl rfl ?_
            clear HS
            intro w1 HS
            refine goD hK rfl ?_
            clear hK K
            refine run_done ?_
            clear hHeld
            go_wp2
            repeat (focus ((go_roundw; (case rel => first | exact ⟨i + 1, B, b, z, _, _, by omega, by go_num, by assumption, by omega, HZ, sX HS [1, 2, 3, 4, 5, 0]⟩ | exact ⟨i + 1, B, b, z, _, _, by omega, by go_num, by assumption, by omega, HZ, sX HS [2, 3, 4, 5, 6, 1]⟩); (case measure => simp [intOf]; omega)); done))
            have HZ2 := Aside0.mk (show ∀ t ∈ y', t.1.size ≤ 5 by rw [Ny'.out]; intro t ht; rcases List.mem_append.1 ht with ht | ht; exact HZ.out t ht; rw [List.mem_singleton.1 ht]; exact hu5)
            have hyl : y'.length ≤ j * 6561 + (i + 1) := by rw [Ny'.out, List.length_append, List.length_singleton]; omega
            go_roundw
            case rel => exact ⟨i + 1, A_y', c_y', y', k4, h4, by omega, by go_num, hk4, hyl, HZ2, sX HS [3, 4, 5, 6, 7, 2]⟩
            case measure => simp [intOf]; omega
        · obtain rfl : i = us.length := by omega
          go_wp2
          replace HS : Aside0 (Mod _ _ _ [_, _, _, _, _]) := sX HS [1, 2, 3, 4, 5]
          go_roundw
          case rel => exact ⟨j + 1, B, b, z, k1, h1, by omega, by go_num, hk1, by omega, HZ, sX HS [0, 1, 2, 3, 4]⟩
          case measure => simp [intOf]; omega
    · obtain rfl : j = n + 1 := by omega
      have f1_ := HS.out.c 3 1 (v := .int .i64 (n : Int)) rfl rfl
      have f2_ := HS.out.c 0 0 (v := .int .i64 (d : Int)) rfl rfl
      have f3_ := HS.out.c 0 1 (v := .int .i64 (n : Int)) rfl rfl
      have f4_ := HS.out.c 0 2 (v := .slice B z.length b) rfl rfl
      go_wp2_with (first | ((with_reducible refine gate_store (t := 26) (p := 4) rfl ?_); refine stL HS 2 0 #[.int .i64 (d : Int), .int .i64 (n : Int), .slice B z.length b] rfl rfl rfl rfl rfl ?_; clear HS f1_ f2_ f3_ f4_; intro w1 HS))
      refine bodyPost_ret (results_cell_row rfl _ _ g_r 26 #[.int .i64 (d : Int), .int .i64 (n : Int), .slice B z.length b] (0, 0) _ rfl (HS.out.at (i := 2) rfl) Try.underlying26 rfl (by kernel_rfl)) rfl ?_
      exact ⟨B, b, z, k1, h1, rfl, hk1, bnd_iff.2 ⟨by omega, fun t ht => by have := HZ.out t ht; omega⟩, by omega, HS.out.sel [4, 1] (by decide)⟩
end Go.Proofs.Ytibjkjhpfmmjoaa.H



namespace Go.Proofs.Ytibjkjhpfmmjoaa.H
open Go.RowKit Go.Proofs.YtibjkjhpfmmjoaaW.PrintWords Go.Proofs.YtibjkjhpfmmjoaaW.PrintLast Go.Proofs.YtibjkjhpfmmjoaaW.PrintMore Go.Proofs.Ytibjkjhpfmmjoaa.M
attribute [local go_sem] max2_int min2_int max_two min_two max_three min_three max_four min_four
set_option linter.unusedVariables false
set_option linter.unusedSimpArgs false
set_option maxRecDepth 100000
/-- A row that a draw may return. -/
def okT (l : Ts) : Prop := bnd l = true ∧ l.length ≤ 100000
set_option maxHeartbeats 8000000 in
theorem specDraw (g : Nat) (A : Option Addr) (c m k : Nat) (h : Int) (w : World) (ho : (srcB g A m c k h).I w) (hcd : Code w g A m) (hk : k ≤ m) (hm : m ≤ 1048576) :
    Calls Try.prog 101 #[.pointer (some ⟨g, 0, none⟩)] w fun e w' => ∃ (d n : Nat) (B : Option Addr) (b : Nat) (l : Ts) (k' : Nat) (h' : Int), e = .returned (.agg #[.int .i64 (d : Int), .int .i64 (n : Int), .slice B l.length b]) ∧ 1 ≤ d ∧ d ≤ 3 ∧ 1 ≤ n ∧ n ≤ 5 ∧ k' ≤ m ∧ okT l ∧ Mod w w' (fun b => b = g) [srcB g A m c k' h', rowT B b l] := by
  have HS := Aside0.mk (Mod.own1 ho)
  have HC := Aside0.mk hcd
  have HL := Aside0.mk (fun k h W k1 k2 hk => specLike g A c m k h W k1 k2 hk hm)
  have HO := Aside0.mk (fun k h d n B0 m0 c0 W k1 k2 hk h1 h2 h3 => specDrawOf g A c m k h d n B0 m0 c0 W k1 k2 hk hm h1 h2 h3)
  clear ho hcd
  go_enter Try.func101, Try.ntmps101
  go_wp2_with (first | ((with_reducible refine gate_dst (N := 2) rfl ?_); refine bxL 26 #[(.int .i64 0), (.int .i64 0), (.slice none 0 0)] HS ?_; clear HS; intro g_r w1 hg_r HS) | (go_at_call 84; refine (HL.out k h _ (HS.out.at (i := 1) rfl) (HC.out.mod (HS.out.sel [0] (by decide)) (fun _ h => h)) hk).mono ?_; rintro e_ w1 ⟨d, n, B, b, k1, h1, rfl, hd0, hd1, hn0, hn1, hk1, hs⟩; replace HS : Aside0 (Mod _ _ _ [_, _]) := sM1 HS 1 [0] rfl hs; clear hs) | (go_at_call 83; refine (specFit d n B 0 b _ hd0 hd1 hn0 hn1).mono ?_; rintro e_ w1 ⟨n2, rfl, hn2, hn3, hn4, hb⟩; replace HS := sB HS hb; clear hb; clear hn4; obtain ⟨d2, rfl⟩ : ∃ d2 : Nat, d = d2 := ⟨Int.toNat d, by omega⟩; obtain ⟨n3, rfl⟩ : ∃ n3 : Nat, n2 = n3 := ⟨Int.toNat n2, by omega⟩) | (go_at_call 112; refine (HO.out k1 h1 d2 n3 B 0 b _ (HS.out.at (i := 0) rfl) (HC.out.mod (HS.out.sel [0] (by decide)) (fun _ h => h)) hk1 (by omega) (by omega) (by omega)).mono ?_; rintro e_ w1 ⟨B2, b2, l, k2, h2, rfl, hk2, hbl, hll, hs⟩; have n_ := Aside0.mk (Mod.step (A0 := [srcB g A m c k1 h1]) (R := [bx g_r 26 #[(.int .i64 0), (.int .i64 0), (.slice none 0 0)]]) (HS.out.sel [0, 1] (by decide)) hs (fun k_ hk_ => ⟨_, List.mem_cons_self, hk_⟩)); clear HS hs; have HS := n_; clear n_; simp only [List.cons_append, List.nil_append] at HS) | ((with_reducible refine gate_store (t := 26) (p := 2) rfl ?_); refine stL HS 2 0 #[.int .i64 (d2 : Int), .int .i64 (n3 : Int), .slice B2 l.length b2] rfl rfl rfl rfl rfl ?_; clear HS; intro w1 HS))
  refine bodyPost_ret (results_cell_row rfl _ _ g_r 26 #[.int .i64 (d2 : Int), .int .i64 (n3 : Int), .slice B2 l.length b2] (0, 0) _ rfl (HS.out.at (i := 2) rfl) Try.underlying26 rfl (by kernel_rfl)) rfl ?_
  exact ⟨d2, n3, B2, b2, l, k2, h2, rfl, by omega, by omega, by omega, by omega, hk2, ⟨hbl, hll⟩, HS.out.sel [0, 1] (by decide)⟩
end Go.Proofs.Ytibjkjhpfmmjoaa.H



namespace Go.Proofs.Ytibjkjhpfmmjoaa.H
open Go.RowKit Go.Proofs.YtibjkjhpfmmjoaaW.PrintWords Go.Proofs.YtibjkjhpfmmjoaaW.PrintLast Go.Proofs.YtibjkjhpfmmjoaaW.PrintMore Go.Proofs.Ytibjkjhpfmmjoaa.M
attribute [local go_sem] max2_int min2_int max_two min_two max_three min_three max_four min_four
set_option linter.unusedVariables false
set_option linter.unusedSimpArgs false
set_option maxRecDepth 100000
theorem Mod.own2 {w : World} {a b : As} (ha : a.I w) (hb : b.I w) (hd : ∀ k, a.S k → b.S k → False) : Mod w w (fun q => a.S q ∨ b.S q) [a, b] :=
  ⟨rfl, rfl, rfl, Nat.le_refl _, fun _ _ _ => rfl, fun x hx => by
    rcases List.mem_cons.1 hx with rfl | hx
    · exact ⟨ha, fun k hk => .inl (.inl hk)⟩
    · obtain rfl := List.mem_singleton.1 hx
      exact ⟨hb, fun k hk => .inl (.inr hk)⟩, List.pairwise_cons.2 ⟨fun x hx k h1 h2 => by obtain rfl := List.mem_singleton.1 hx; exact hd k h1 h2, List.pairwise_singleton _ _⟩⟩
/-- The code's bytes lie apart from a row. -/
def Apart (A : Option Addr) (m : Nat) (R : Nat → Prop) : Prop := ∀ ad q, A = some ad → 0 < m → R q → q ≠ ad.block
theorem Code.mod2 {w W : World} {g n : Nat} {A : Option Addr} {L : List As} {R : Nat → Prop} (h : Code w g A n) (HS : Mod w W (fun q => q = g ∨ R q) L) (hR : Apart A n R) : Code W g A n := fun i hi => by
  obtain ⟨ad, x, h1, h2, h3, h4⟩ := h i hi
  refine ⟨ad, x, h1, h2, ?_, h4⟩
  rw [cell_heap (w := w) (HS.block _ (World.block_lt_of_cell? w _ h3) (fun hk => by
    rw [add_blk ad i] at hk
    exact hk.elim h2 (fun hk => hR ad _ h1 (by omega) hk rfl)))]
  exact h3
theorem tr_fact {W : World} {a b : Addr} {v : Value} (h : W.cell? b = some v) (e : a = b) : W.cell? a = some v := by rw [e]; exact h
theorem okT_size {l : Ts} (h : okT l) {i : Nat} (hi : i < l.length) : (l.getD i zT).1.size ≤ 1048576 := by
  rw [getD_lt l zT i hi]; exact (bnd_iff.1 h.1).2 _ (List.getElem_mem hi)
theorem okT_set {l : Ts} (h : okT l) (i : Nat) {t : Tm} (ht : t.1.size ≤ 1048576) : okT (l.set i t) := by
  obtain ⟨h1, h2⟩ := h
  obtain ⟨h3, h4⟩ := bnd_iff.1 h1
  refine ⟨bnd_iff.2 ⟨by rw [List.length_set]; exact h3, fun x hx => ?_⟩, by rw [List.length_set]; exact h2⟩
  rcases List.mem_or_eq_of_mem_set hx with h5 | rfl
  · exact h4 x h5
  · exact ht
/-- The value of a term is written. -/
theorem over_val (l : Ts) (sp : List Value) (k : Nat) (x y : Int) (hk : k < l.length) : over (flat l ++ sp).toArray (k * 3 + 1) [.int .i64 x, .int .i64 y] = (flat (l.set k ((l.getD k zT).1, x, y)) ++ sp).toArray := by
  have hX : (flat (l.take k)).length = k * 3 := by rw [flat_length, List.length_take, Nat.min_eq_left (by omega)]
  have e1 : flat l = flat (l.take k) ++ (.string (l.getD k zT).1 :: .int .i64 (l.getD k zT).2.1 :: .int .i64 (l.getD k zT).2.2 :: flat (l.drop (k + 1))) := flat_split l k hk
  have e2 : flat (l.set k ((l.getD k zT).1, x, y)) = flat (l.take k) ++ (.string (l.getD k zT).1 :: .int .i64 x :: .int .i64 y :: flat (l.drop (k + 1))) := by
    rw [List.set_eq_take_append_cons_drop, if_pos hk, flat_append]
    rfl
  unfold over
  rw [e1, e2]
  generalize flat (l.take k) = X at hX
  generalize flat (l.drop (k + 1)) = Y
  simp only [List.toList_toArray]
  congr 1
  rw [← hX]
  simp [List.take_append, List.drop_append, List.take_of_length_le, List.drop_of_length_le]
  rw [List.drop_of_length_le (by omega), show X.length + 1 + 2 - X.length = 3 by omega]
  rfl
section
variable {w W W1 : World} {S : Nat → Prop} {L : List As} {P : Program} {ops : Array Oper} {o : Oper} {a : Act} {Q : Exit → Act → World → Prop} {Kc : Act → World → Prop}
theorem stp_put_val (hw : Region.wanted o (yielded ops a.tmps) = true) (hN : o.dst = none) {ty : TypeId} {x y : Operand} (ho : o.op = .store ty x y) (HS : Aside0 (Mod w W S L)) (i : Nat) {g e : Nat} {l : Ts} {sp : List Value} (hi : L[i]? = some (tr g e l sp)) (k : Nat) (hk : k < l.length) (p q : Int)
    (hx : a.eval x = .pointer (some ⟨g, k * 3 + 1, none⟩)) (hy : a.eval y = .agg #[.int .i64 p, .int .i64 q]) (hsz : (P.info? ty).map (·.size) = some 2) (h : ∀ w1, Aside0 (Mod w w1 S (L.set i (tr g e (l.set k ((l.getD k zT).1, p, q)) sp))) → Kc a w1) : Stp P ops Q o a W Kc := by
  have hl := flat_length l
  refine stp_set hw hN ho HS i (k * 3 + 1) (cs' := (flat (l.set k ((l.getD k zT).1, p, q)) ++ sp).toArray) hi hx hy hsz ?_ (over_val l sp k p q hk) h
  rw [Bool.and_eq_true, decide_eq_true_eq]
  refine ⟨?_, rfl⟩
  show k * 3 + 1 + 2 ≤ (flat l ++ sp).toArray.size
  rw [List.size_toArray, List.length_append]; omega
end
set_option maxHeartbeats 8000000 in
theorem specBad (g : Nat) (A : Option Addr) (c m k : Nat) (h : Int) (d n : Nat) (B : Option Addr) (b : Nat) (l : Ts) (w : World) (ho : (srcB g A m c k h).I w) (hr : (rowT B b l).I w) (hne : ∀ q, (rowT B b l).S q → q ≠ g) (hap : Apart A m (rowT B b l).S) (hcd : Code w g A m) (hk : k ≤ m) (hm : m ≤ 1048576) (hd : d ≤ 5) (hn : n ≤ 6) (hl : okT l) :
    Calls Try.prog 100 #[.pointer (some ⟨g, 0, none⟩), .agg #[.int .i64 (d : Int), .int .i64 (n : Int), .slice B l.length b]] w fun e w' => ∃ (d' n' : Int) (B' : Option Addr) (b' : Nat) (l' : Ts) (k' : Nat) (h' : Int), e = .returned (.agg #[.int .i64 d', .int .i64 n', .slice B' l'.length b']) ∧ -1 ≤ d' ∧ d' ≤ 5 ∧ -1 ≤ n' ∧ n' ≤ 6 ∧ k' ≤ m ∧ okT l' ∧ Mod w w' (fun q => q = g ∨ (rowT B b l).S q) [srcB g A m c k' h', rowT B' b' l'] := by
  have HS := Aside0.mk (show Mod w w (fun q => q = g ∨ (rowT B b l).S q) [srcB g A m c k h, rowT B b l] from Mod.own2 ho hr (fun q h1 h2 => hne q h2 h1))
  have HE := Aside0.mk hap
  have HC := Aside0.mk hcd
  have hll : l.length ≤ 100000 := hl.2
  have HN := Aside0.mk (fun k h n W k1 k2 hk h1 => specNext g A c m k h n W k1 k2 hk hm h1)
  have HP := Aside0.mk (fun k h B b (x y z t : Int) W k1 k2 hk k3 k4 => specPick g A c m k h B b [x, y, z, t] W k1 k2 hk hm k3 k4 (by simp) (by simp))
  have HP2 := Aside0.mk (fun k h B b W k1 k2 hk k3 k4 => specPick g A c m k h B b [0, 2] W k1 k2 hk hm k3 k4 (by simp) (by simp))
  have HP3 := Aside0.mk (fun k h B b W k1 k2 hk k3 k4 => specPick g A c m k h B b [1, 4, 0] W k1 k2 hk hm k3 k4 (by simp) (by simp))
  clear ho hr hcd hne hap
  go_enter Try.func100, Try.ntmps100
  go_wp2_with (first | ((with_reducible refine gate_dst (N := 3) rfl ?_); refine bxL 26 #[.int .i64 (d : Int), .int .i64 (n : Int), .slice B l.length b] HS ?_; clear HS; intro g_x w1 hg_x HS) | ((with_reducible refine gate_dst (N := 4) rfl ?_); refine bxL 26 #[(.int .i64 0), (.int .i64 0), (.slice none 0 0)] HS ?_; clear HS; intro g_r w1 hg_r HS) | (go_at_call 57; refine (HN.out k h 50 _ (HS.out.at (i := 2) rfl) (HC.out.mod2 HS.out HE.out) hk (by omega)).mono ?_; rintro e_ w1 ⟨u, k1, h1_, rfl, hk1, hr1, hr2, hs⟩; replace HS : Aside0 (Mod _ _ _ [_, _, _, _]) := sM1 HS 2 [0, 1, 3] rfl hs; clear hs; obtain ⟨hr3, hr4⟩ := hr1 (by omega); clear hr1 hr2; obtain ⟨u, rfl⟩ : ∃ i : Nat, u = i := ⟨Int.toNat u, by omega⟩; clear hr3 hr4; refine Hid.out ?_))
  refine Lib.hid ?_
  by_cases h0 : u = 0
  · have hu0 : ((u : Int) == 0) = true := by rw [h0]; rfl
    clear h0
    have f1_ := HS.out.c 2 0 (v := .int .i64 (d : Int)) rfl rfl
    go_wp2_with (first | ((with_reducible refine gate_dst (N := 18) rfl ?_); refine wpList_stp (fun K hK => ?_); refine stp_lit (Kd.int .i64) rfl 2 (by rfl) HS (xs := [0, 4, (d : Int) - 1, -1]) (inner := [.int .i64 0, .int .i64 4, .int .i64 ((d : Int) - 1), .int .i64 (-1)]) (by first | (go_simp; done) | (go_simp; rfl)) (fun W base ok => reps_ints W base ok _) (by simp) ?_; clear HS f1_; intro A_p c_p w1 HS; refine hK _ _ ?_; clear hK K) | (go_at_call 74; refine (HP.out k1 h1_ A_p c_p 0 4 ((d : Int) - 1) (-1) _ (HS.out.at (i := 1) rfl) (HC.out.mod2 HS.out HE.out) hk1 (HS.out.at (i := 0) rfl) (fun q h1 h2 => HS.out.disj (i := 0) (j := 1) rfl rfl (by decide) q h1 h2)).mono ?_; rintro e_ w1 ⟨d2, k2, h2, rfl, hk2, hq, hs⟩; replace HS : Aside0 (Mod _ _ _ [_, _, _, _, _]) := sM1 HS 1 [0, 2, 3, 4] rfl hs; clear hs; obtain ⟨hd0, hd1⟩ : -1 ≤ d2 ∧ d2 ≤ 5 := (by simp only [List.mem_cons, List.not_mem_nil, or_false] at hq; omega); clear hq) | ((with_reducible refine gate_store (t := 2) (p := 20) rfl ?_); refine stL HS 3 0 #[(.int .i64 d2), .int .i64 (n : Int), .slice B l.length b] rfl rfl rfl rfl rfl ?_; clear HS; intro w1 HS; have f1_ := HS.out.c 3 0 (v := (.int .i64 d2)) rfl rfl; have f2_ := HS.out.c 3 1 (v := .int .i64 (n : Int)) rfl rfl; have f3_ := HS.out.c 3 2 (v := .slice B l.length b) rfl rfl) | ((with_reducible refine gate_store (t := 26) (p := 4) rfl ?_); refine stL HS 2 0 #[(.int .i64 d2), .int .i64 (n : Int), .slice B l.length b] rfl rfl rfl rfl rfl ?_; clear HS f1_ f2_ f3_; intro w1 HS))
    refine bodyPost_ret (results_cell_row rfl _ _ g_r 26 #[(.int .i64 d2), .int .i64 (n : Int), .slice B l.length b] (0, 0) _ rfl (HS.out.at (i := 2) rfl) Try.underlying26 rfl (by kernel_rfl)) rfl ?_
    exact ⟨d2, n, B, b, l, k2, h2, rfl, hd0, hd1, by omega, by omega, hk2, hl, HS.out.sel [0, 4] (by decide)⟩
  · have hu0 : ((u : Int) == 0) = false := by rw [beq_eq_false_iff_ne]; omega
    by_cases h1 : u = 1
    · have hu1 : ((u : Int) == 1) = true := by rw [h1]; rfl
      clear h0 h1
      have f1_ := HS.out.c 2 1 (v := .int .i64 (n : Int)) rfl rfl
      go_wp2_with (first | ((with_reducible refine gate_dst (N := 27) rfl ?_); refine wpList_stp (fun K hK => ?_); refine stp_lit (Kd.int .i64) rfl 2 (by rfl) HS (xs := [0, 6, (n : Int) - 1, 5]) (inner := [.int .i64 0, .int .i64 6, .int .i64 ((n : Int) - 1), .int .i64 5]) (by first | (go_simp; done) | (go_simp; rfl)) (fun W base ok => reps_ints W base ok _) (by simp) ?_; clear HS f1_; intro A_p c_p w1 HS; refine hK _ _ ?_; clear hK K) | (go_at_call 74; refine (HP.out k1 h1_ A_p c_p 0 6 ((n : Int) - 1) 5 _ (HS.out.at (i := 1) rfl) (HC.out.mod2 HS.out HE.out) hk1 (HS.out.at (i := 0) rfl) (fun q h1 h2 => HS.out.disj (i := 0) (j := 1) rfl rfl (by decide) q h1 h2)).mono ?_; rintro e_ w1 ⟨d2, k2, h2, rfl, hk2, hq, hs⟩; replace HS : Aside0 (Mod _ _ _ [_, _, _, _, _]) := sM1 HS 1 [0, 2, 3, 4] rfl hs; clear hs; obtain ⟨hd0, hd1⟩ : -1 ≤ d2 ∧ d2 ≤ 6 := (by simp only [List.mem_cons, List.not_mem_nil, or_false] at hq; omega); clear hq) | ((with_reducible refine gate_store (t := 2) (p := 29) rfl ?_); refine stL HS 3 1 #[.int .i64 (d : Int), (.int .i64 d2), .slice B l.length b] rfl rfl rfl rfl rfl ?_; clear HS; intro w1 HS; have f1_ := HS.out.c 3 0 (v := .int .i64 (d : Int)) rfl rfl; have f2_ := HS.out.c 3 1 (v := (.int .i64 d2)) rfl rfl; have f3_ := HS.out.c 3 2 (v := .slice B l.length b) rfl rfl) | ((with_reducible refine gate_store (t := 26) (p := 4) rfl ?_); refine stL HS 2 0 #[.int .i64 (d : Int), (.int .i64 d2), .slice B l.length b] rfl rfl rfl rfl rfl ?_; clear HS f1_ f2_ f3_; intro w1 HS))
      refine bodyPost_ret (results_cell_row rfl _ _ g_r 26 #[.int .i64 (d : Int), (.int .i64 d2), .slice B l.length b] (0, 0) _ rfl (HS.out.at (i := 2) rfl) Try.underlying26 rfl (by kernel_rfl)) rfl ?_
      exact ⟨d, d2, B, b, l, k2, h2, rfl, by omega, by omega, hd0, hd1, hk2, hl, HS.out.sel [0, 4] (by decide)⟩
    · have hu1 : ((u : Int) == 1) = false := by rw [beq_eq_false_iff_ne]; omega
      by_cases h2 : u = 2
      · have hu2 : ((u : Int) == 2) = true := by rw [h2]; rfl
        clear h0 h1 h2
        by_cases hl0 : 0 < l.length
        · skip
          have f1_ := HS.out.c 2 2 (v := .slice B l.length b) rfl rfl
          go_wp2_with (first | ((with_reducible refine gate_dst (N := 37) rfl ?_); refine wpList_stp (fun K hK => ?_); refine stp_lit (KT) rfl 38 (by rfl) HS (xs := ([] : Ts)) (inner := []) (by first | (go_simp; done) | (go_simp; rfl)) (fun W base ok => Reps.none _ _) (by simp) ?_; clear HS f1_; intro A_z c_z w1 HS; refine hK _ _ ?_; clear hK K; have f1_ := HS.out.c 3 2 (v := .slice B l.length b) rfl rfl) | ((with_reducible refine gate_builtin (b := .append) (xs := #[.tmp 37, .tmp 39]) rfl ?_); at_builtin; refine wpList_stp (fun K hK => ?_); refine stp_rows KT rfl (fun _ _ _ _ _ h => h) (by rfl) HS 0 (xs := []) rfl (.tmp 37) (.tmp 39) 24 (.agg #[(.string ⟨#[]⟩), (.int .i64 0), (.int .i64 0)]) 32 rfl Try.underlying24 infoTerm (by kernel_rfl) l rfl rfl (HS.out.reads 4 rfl) (by show (0 + l.length) * 32 ≤ _; omega) ?_; clear HS f1_; intro A_y' c_y' y' w1 Ny' HS; simp only [List.set_cons_zero, List.set_cons_succ] at HS; refine hK _ _ ?_; clear hK K))
          have ey : l = y' := by have h_ := Ny'.out; rw [List.nil_append] at h_; exact h_.symm
          subst ey
          obtain ⟨g_o, sp, rfl, hI, hlen, hcm⟩ := R_tr (HS.out.rowAt 0 rfl) rfl (by omega)
          have n_ := Aside0.mk (HS.out.asBlock (i := 0) rfl hI)
          clear HS hI Ny'
          have HS := n_
          clear n_
          simp only [List.set_cons_zero, List.set_cons_succ] at HS
          have HL := Aside0.mk hlen
          clear hlen
          have tk1_ : True := trivial
          go_wp2_with (first | (go_at_call 57; refine (HN.out k1 h1_ (l.length : Int) _ (HS.out.at (i := 1) rfl) (HC.out.mod2 HS.out HE.out) hk1 (by omega)).mono ?_; rintro e_ w1 ⟨r2, k2, h2, rfl, hk2, hr1, hr2, hs⟩; replace HS : Aside0 (Mod _ _ _ [_, _, _, _, _]) := sM1 HS 1 [0, 2, 3, 4] rfl hs; clear hs; obtain ⟨hr3, hr4⟩ := hr1 (by omega); clear hr1 hr2; obtain ⟨i, rfl⟩ : ∃ i : Nat, r2 = i := ⟨Int.toNat r2, by omega⟩; have hil : i < l.length := (by omega); clear hr3 hr4) | ((with_reducible refine gate_dst (N := 46) rfl ?_); refine wpList_stp (fun K hK => ?_); refine stp_lit (Kd.int .i64) rfl 2 (by rfl) HS (xs := [0, 2]) (inner := [.int .i64 0, .int .i64 2]) (by first | (go_simp; done) | (go_simp; rfl)) (fun W base ok => reps_ints W base ok _) (by simp) ?_; clear HS; intro A_p c_p w1 HS; refine hK _ _ ?_; clear hK K) | (go_at_call 74; clear tk1_; refine (HP2.out k2 h2 A_p c_p _ (HS.out.at (i := 1) rfl) (HC.out.mod2 HS.out HE.out) hk2 (HS.out.at (i := 0) rfl) (fun q h1 h2 => HS.out.disj (i := 0) (j := 1) rfl rfl (by decide) q h1 h2)).mono ?_; rintro e_ w1 ⟨a1, k3, h3, rfl, hk3, hq, hs⟩; replace HS : Aside0 (Mod _ _ _ [_, _, _, _, _, _]) := sM1 HS 1 [0, 2, 3, 4, 5] rfl hs; clear hs; clear hq) | ((with_reducible refine gate_dst (N := 49) rfl ?_); refine wpList_stp (fun K hK => ?_); refine stp_lit (Kd.int .i64) rfl 2 (by rfl) HS (xs := [1, 4, 0]) (inner := [.int .i64 1, .int .i64 4, .int .i64 0]) (by first | (go_simp; done) | (go_simp; rfl)) (fun W base ok => reps_ints W base ok _) (by simp) ?_; clear HS; intro A_q c_q w1 HS; refine hK _ _ ?_; clear hK K) | (go_at_call 74; refine (HP3.out k3 h3 A_q c_q _ (HS.out.at (i := 1) rfl) (HC.out.mod2 HS.out HE.out) hk3 (HS.out.at (i := 0) rfl) (fun q h1 h2 => HS.out.disj (i := 0) (j := 1) rfl rfl (by decide) q h1 h2)).mono ?_; rintro e_ w1 ⟨a2, k4, h4, rfl, hk4, hq, hs⟩; replace HS : Aside0 (Mod _ _ _ [_, _, _, _, _, _, _]) := sM1 HS 1 [0, 2, 3, 4, 5, 6] rfl hs; clear hs; clear hq) | ((with_reducible refine gate_store (t := 34) (p := 53) rfl ?_); refine wpList_stp (fun K hK => ?_); refine stp_put_val (by rfl) rfl rfl HS 3 rfl i hil a1 a2 rfl rfl (by kernel_rfl) ?_; clear HS; intro w1 HS; simp only [List.set_cons_zero, List.set_cons_succ] at HS; refine hK _ _ ?_; clear hK K) | ((with_reducible refine gate_store (t := 24) (p := 55) rfl ?_); refine stL HS 5 2 #[.int .i64 (d : Int), .int .i64 (n : Int), (.slice (some ⟨g_o, 0, none⟩) l.length c_y')] rfl rfl rfl rfl rfl ?_; clear HS; intro w1 HS; have f1_ := HS.out.c 5 0 (v := .int .i64 (d : Int)) rfl rfl; have f2_ := HS.out.c 5 1 (v := .int .i64 (n : Int)) rfl rfl; have f3_ := HS.out.c 5 2 (v := (.slice (some ⟨g_o, 0, none⟩) l.length c_y')) rfl rfl) | ((with_reducible refine gate_store (t := 26) (p := 4) rfl ?_); refine stL HS 4 0 #[.int .i64 (d : Int), .int .i64 (n : Int), (.slice (some ⟨g_o, 0, none⟩) l.length c_y')] rfl rfl rfl rfl rfl ?_; clear HS f1_ f2_ f3_; intro w1 HS))
          refine bodyPost_ret (results_cell_row rfl _ _ g_r 26 #[.int .i64 (d : Int), .int .i64 (n : Int), (.slice (some ⟨g_o, 0, none⟩) l.length c_y')] (0, 0) _ rfl (HS.out.at (i := 4) rfl) Try.underlying26 rfl (by kernel_rfl)) rfl ?_
          have hR := HS.out.asRow (i := 3) rfl (cap := c_y') (by have := HL.out; rw [List.length_append, flat_length] at this ⊢; rw [List.length_set]; omega) hcm
          refine ⟨d, n, some ⟨g_o, 0, none⟩, c_y', l.set i ((l.getD i zT).1, a1, a2), k4, h4, by rw [List.length_set], by omega, by omega, by omega, by omega, hk4, okT_set hl i (okT_size hl hil), ?_⟩
          exact hR.sel [0, 3] (by decide)
        · skip
          have f1_ := HS.out.c 2 2 (v := .slice B l.length b) rfl rfl
          have f2_ := HS.out.c 2 0 (v := .int .i64 (d : Int)) rfl rfl
          have f3_ := HS.out.c 2 1 (v := .int .i64 (n : Int)) rfl rfl
          go_wp2_with (first | ((with_reducible refine gate_store (t := 26) (p := 4) rfl ?_); refine stL HS 1 0 #[.int .i64 (d : Int), .int .i64 (n : Int), .slice B l.length b] rfl rfl rfl rfl rfl ?_; clear HS f1_ f2_ f3_; intro w1 HS))
          refine bodyPost_ret (results_cell_row rfl _ _ g_r 26 #[.int .i64 (d : Int), .int .i64 (n : Int), .slice B l.length b] (0, 0) _ rfl (HS.out.at (i := 1) rfl) Try.underlying26 rfl (by kernel_rfl)) rfl ?_
          exact ⟨d, n, B, b, l, k1, h1_, rfl, by omega, by omega, by omega, by omega, hk1, hl, HS.out.sel [0, 3] (by decide)⟩
      · have hu2 : ((u : Int) == 2) = false := by rw [beq_eq_false_iff_ne]; omega
        by_cases h3 : u = 3
        · have hu3 : ((u : Int) == 3) = true := by rw [h3]; rfl
          clear h0 h1 h2 h3
          by_cases hl0 : 1 < l.length
          · skip
            have f1_ := HS.out.c 2 2 (v := .slice B l.length b) rfl rfl
            go_wp2_with (first | ((with_reducible refine gate_dst (N := 63) rfl ?_); refine wpList_stp (fun K hK => ?_); refine stp_lit (KT) rfl 38 (by rfl) HS (xs := ([] : Ts)) (inner := []) (by first | (go_simp; done) | (go_simp; rfl)) (fun W base ok => Reps.none _ _) (by simp) ?_; clear HS f1_; intro A_z c_z w1 HS; refine hK _ _ ?_; clear hK K; have f1_ := HS.out.c 3 2 (v := .slice B l.length b) rfl rfl) | ((with_reducible refine gate_builtin (b := .append) (xs := #[.tmp 63, .tmp 65]) rfl ?_); at_builtin; refine wpList_stp (fun K hK => ?_); refine stp_rows KT rfl (fun _ _ _ _ _ h => h) (by rfl) HS 0 (xs := []) rfl (.tmp 63) (.tmp 65) 24 (.agg #[(.string ⟨#[]⟩), (.int .i64 0), (.int .i64 0)]) 32 rfl Try.underlying24 infoTerm (by kernel_rfl) l rfl rfl (HS.out.reads 4 rfl) (by show (0 + l.length) * 32 ≤ _; omega) ?_; clear HS f1_; intro A_y' c_y' y' w1 Ny' HS; simp only [List.set_cons_zero, List.set_cons_succ] at HS; refine hK _ _ ?_; clear hK K))
            have ey : l = y' := by have h_ := Ny'.out; rw [List.nil_append] at h_; exact h_.symm
            subst ey
            obtain ⟨g_o, sp, rfl, hI, hlen, hcm⟩ := R_tr (HS.out.rowAt 0 rfl) rfl (by omega)
            have n_ := Aside0.mk (HS.out.asBlock (i := 0) rfl hI)
            clear HS hI Ny'
            have HS := n_
            clear n_
            simp only [List.set_cons_zero, List.set_cons_succ] at HS
            have HL := Aside0.mk hlen
            clear hlen
            obtain ⟨q, hq⟩ : ∃ q, l.length = q + 1 := ⟨l.length - 1, by omega⟩
            have hq1 : (l.length : Int) - 1 = (q : Int) := by omega
            have hql : q < l.length := by omega
            have hl00 : 0 < l.length := by omega
            have hl01 : l ≠ [] := by intro e_; rw [e_] at hl00; cases hl00
            have hl02 : (0 : Int) < (l.length : Int) := by omega
            have hl03 : ¬ ((l.length : Int) ≤ 0) := by omega
            have hl04 : ¬ (l = []) := hl01
            clear hq
            obtain ⟨t0, ht0⟩ : ∃ t, l.getD 0 zT = t := ⟨_, rfl⟩
            obtain ⟨tq, htq⟩ : ∃ t, l.getD q zT = t := ⟨_, rfl⟩
            have HT0 := Aside0.mk ht0
            have HTQ := Aside0.mk htq
            have hs0 : t0.1.size ≤ 1048576 := by rw [← ht0]; exact okT_size hl hl00
            have hsq : tq.1.size ≤ 1048576 := by rw [← htq]; exact okT_size hl hql
            clear ht0 htq
            have f1_ := tr_fact (tr_cell (HS.out.at (i := 0) rfl) 0 0 hl00 (by decide) (by rw [HT0.out]; rfl)) (a := ⟨g_o, 0, none⟩) rfl
            have f2_ := tr_fact (tr_cell (HS.out.at (i := 0) rfl) 0 1 hl00 (by decide) (by rw [HT0.out]; rfl)) (a := ⟨g_o, 1, none⟩) rfl
            have f3_ := tr_fact (tr_cell (HS.out.at (i := 0) rfl) 0 2 hl00 (by decide) (by rw [HT0.out]; rfl)) (a := ⟨g_o, 2, none⟩) rfl
            go_wp2_with (first | ((with_reducible refine gate_dst (N := 9) rfl ?_); refine bxL 38 #[(.string ⟨#[]⟩), (.int .i64 0), (.int .i64 0)] HS ?_; clear HS f1_ f2_ f3_; intro g_own w1 hg_own HS) | ((with_reducible refine gate_store (t := 38) (p := 9) rfl ?_); refine stL HS 0 0 #[.string t0.1, .int .i64 t0.2.1, .int .i64 t0.2.2] rfl rfl rfl rfl rfl ?_; clear HS; intro w1 HS; have f1_ := tr_fact (tr_cell (HS.out.at (i := 1) rfl) q 0 hql (by decide) (by rw [HTQ.out]; rfl)) (a := ⟨g_o, q * 3, none⟩) rfl; have f2_ := tr_cell (HS.out.at (i := 1) rfl) q 1 hql (by decide) (by rw [HTQ.out]; rfl); have f3_ := tr_cell (HS.out.at (i := 1) rfl) q 2 hql (by decide) (by rw [HTQ.out]; rfl)) | ((with_reducible refine gate_store (t := 38) (p := 76) rfl ?_); refine wpList_stp (fun K hK => ?_); refine stp_put_term (by rfl) rfl rfl HS 1 rfl 0 hl00 tq rfl rfl (by kernel_rfl) ?_; clear HS f1_ f2_ f3_; intro w1 HS; simp only [List.set_cons_zero, List.set_cons_succ] at HS; refine hK _ _ ?_; clear hK K; have f1_ := HS.out.c 0 0 (v := .string t0.1) rfl rfl; have f2_ := HS.out.c 0 1 (v := .int .i64 t0.2.1) rfl rfl; have f3_ := HS.out.c 0 2 (v := .int .i64 t0.2.2) rfl rfl) | ((with_reducible refine gate_store (t := 38) (p := 81) rfl ?_); refine wpList_stp (fun K hK => ?_); refine stp_put_term (by rfl) rfl rfl HS 1 rfl q (by rw [List.length_set]; exact hql) t0 rfl rfl (by kernel_rfl) ?_; clear HS f1_ f2_ f3_; intro w1 HS; simp only [List.set_cons_zero, List.set_cons_succ] at HS; refine hK _ _ ?_; clear hK K) | ((with_reducible refine gate_store (t := 24) (p := 83) rfl ?_); refine stL HS 4 2 #[.int .i64 (d : Int), .int .i64 (n : Int), (.slice (some ⟨g_o, 0, none⟩) l.length c_y')] rfl rfl rfl rfl rfl ?_; clear HS; intro w1 HS; have f1_ := HS.out.c 4 0 (v := .int .i64 (d : Int)) rfl rfl; have f2_ := HS.out.c 4 1 (v := .int .i64 (n : Int)) rfl rfl; have f3_ := HS.out.c 4 2 (v := (.slice (some ⟨g_o, 0, none⟩) l.length c_y')) rfl rfl) | ((with_reducible refine gate_store (t := 26) (p := 4) rfl ?_); refine stL HS 3 0 #[.int .i64 (d : Int), .int .i64 (n : Int), (.slice (some ⟨g_o, 0, none⟩) l.length c_y')] rfl rfl rfl rfl rfl ?_; clear HS f1_ f2_ f3_; intro w1 HS))
            refine bodyPost_ret (results_cell_row rfl _ _ g_r 26 #[.int .i64 (d : Int), .int .i64 (n : Int), (.slice (some ⟨g_o, 0, none⟩) l.length c_y')] (0, 0) _ rfl (HS.out.at (i := 3) rfl) Try.underlying26 rfl (by kernel_rfl)) rfl ?_
            have hR := HS.out.asRow (i := 1) rfl (cap := c_y') (by have := HL.out; rw [List.length_append, flat_length] at this ⊢; rw [List.length_set, List.length_set]; omega) hcm
            refine ⟨d, n, some ⟨g_o, 0, none⟩, c_y', (l.set 0 tq).set q t0, k1, h1_, by rw [List.length_set, List.length_set], by omega, by omega, by omega, by omega, hk1, okT_set (okT_set hl 0 hsq) q hs0, ?_⟩
            exact hR.sel [2, 1] (by decide)
          · skip
            have f1_ := HS.out.c 2 2 (v := .slice B l.length b) rfl rfl
            have f2_ := HS.out.c 2 0 (v := .int .i64 (d : Int)) rfl rfl
            have f3_ := HS.out.c 2 1 (v := .int .i64 (n : Int)) rfl rfl
            go_wp2_with (first | ((with_reducible refine gate_store (t := 26) (p := 4) rfl ?_); refine stL HS 1 0 #[.int .i64 (d : Int), .int .i64 (n : Int), .slice B l.length b] rfl rfl rfl rfl rfl ?_; clear HS f1_ f2_ f3_; intro w1 HS))
            refine bodyPost_ret (results_cell_row rfl _ _ g_r 26 #[.int .i64 (d : Int), .int .i64 (n : Int), .slice B l.length b] (0, 0) _ rfl (HS.out.at (i := 1) rfl) Try.underlying26 rfl (by kernel_rfl)) rfl ?_
            exact ⟨d, n, B, b, l, k1, h1_, rfl, by omega, by omega, by omega, by omega, hk1, hl, HS.out.sel [0, 3] (by decide)⟩
        · have hu3 : ((u : Int) == 3) = false := by rw [beq_eq_false_iff_ne]; omega
          clear h0 h1 h2 h3
          have f1_ := HS.out.c 2 0 (v := .int .i64 (d : Int)) rfl rfl
          have f2_ := HS.out.c 2 1 (v := .int .i64 (n : Int)) rfl rfl
          have f3_ := HS.out.c 2 2 (v := .slice B l.length b) rfl rfl
          go_wp2_with (first | ((with_reducible refine gate_store (t := 26) (p := 4) rfl ?_); refine stL HS 1 0 #[.int .i64 (d : Int), .int .i64 (n : Int), .slice B l.length b] rfl rfl rfl rfl rfl ?_; clear HS f1_ f2_ f3_; intro w1 HS))
          refine bodyPost_ret (results_cell_row rfl _ _ g_r 26 #[.int .i64 (d : Int), .int .i64 (n : Int), .slice B l.length b] (0, 0) _ rfl (HS.out.at (i := 1) rfl) Try.underlying26 rfl (by kernel_rfl)) rfl ?_
          exact ⟨d, n, B, b, l, k1, h1_, rfl, by omega, by omega, by omega, by omega, hk1, hl, HS.out.sel [0, 3] (by decide)⟩
end Go.Proofs.Ytibjkjhpfmmjoaa.H



namespace Go.Proofs.Ytibjkjhpfmmjoaa.H
open Go.RowKit Go.Proofs.YtibjkjhpfmmjoaaW.PrintWords Go.Proofs.YtibjkjhpfmmjoaaW.PrintLast Go.Proofs.YtibjkjhpfmmjoaaW.PrintMore Go.Proofs.Ytibjkjhpfmmjoaa.M
attribute [local go_sem] max2_int min2_int max_two min_two max_three min_three max_four min_four
set_option linter.unusedVariables false
set_option linter.unusedSimpArgs false
set_option maxRecDepth 100000
theorem Mod.disj2 {w W : World} {S : Nat → Prop} {L : List As} (h : Mod w W S L) {i j : Nat} {a b : As} (hi : L[i]? = some a) (hj : L[j]? = some b) (hij : i ≠ j) : ∀ k, a.S k → b.S k → False := by
  rcases Nat.lt_or_gt_of_ne hij with h1 | h1
  · exact h.disj hi hj h1
  · exact fun k x y => h.disj hj hi h1 k y x
theorem Code.apart {w W : World} {g n : Nat} {A : Option Addr} {L : List As} {S : Nat → Prop} (h : Code w g A n) (HS : Mod w W S L) (hS : ∀ k, S k → k = g) (i : Nat) {a : As} (hi : L[i]? = some a) : Apart A n a.S := fun ad q hA hn hq => by
  obtain ⟨ad', x, h1, h2, h3, _⟩ := h 0 hn
  rw [hA] at h1
  injection h1 with h1
  subst h1
  have h4 := World.block_lt_of_cell? w _ h3
  rw [add_blk] at h4
  rintro rfl
  rcases (HS.all a (List.mem_of_getElem? hi)).2 _ hq with h5 | h5
  · exact h2 (hS _ h5)
  · omega
set_option maxHeartbeats 8000000 in
theorem specSpoil (g : Nat) (A : Option Addr) (c m k : Nat) (h : Int) (w : World) (ho : (srcB g A m c k h).I w) (hcd : Code w g A m) (hk : k ≤ m) (hm : m ≤ 1048576) :
    Calls Try.prog 50 #[.pointer (some ⟨g, 0, none⟩)] w fun e w' => ∃ (d' n' : Int) (B' : Option Addr) (b' : Nat) (l' : Ts) (k' : Nat) (h' : Int), e = .returned (.agg #[.int .i64 d', .int .i64 n', .slice B' l'.length b']) ∧ -1 ≤ d' ∧ d' ≤ 5 ∧ -1 ≤ n' ∧ n' ≤ 6 ∧ k' ≤ m ∧ okT l' ∧ Mod w w' (fun b => b = g) [srcB g A m c k' h', rowT B' b' l'] := by
  have HS := Aside0.mk (Mod.own1 ho)
  have HC := Aside0.mk hcd
  have HB := Aside0.mk (fun k h d n B b l W k1 k2 k3 k4 k5 hk h1 h2 h3 => specBad g A c m k h d n B b l W k1 k2 k3 k4 k5 hk hm h1 h2 h3)
  clear ho hcd
  go_enter Try.func50, Try.ntmps50
  go_wp2_with (first | ((with_reducible refine gate_dst (N := 2) rfl ?_); refine bxL 26 #[(.int .i64 0), (.int .i64 0), (.slice none 0 0)] HS ?_; clear HS; intro g_r w1 hg_r HS) | (go_at_call 101; refine (specDraw g A c m k h _ (HS.out.at (i := 1) rfl) (HC.out.mod (HS.out.sel [0] (by decide)) (fun _ h => h)) hk hm).mono ?_; rintro e_ w1 ⟨d, n, B, b, l, k1, h1, rfl, hd0, hd1, hn0, hn1, hk1, hok, hs⟩; have n_ := Aside0.mk (Mod.step (A0 := [bx g 98 #[.slice A m c, .int .i64 (k : Int), .int .u64 h]]) (R := [bx g_r 26 #[(.int .i64 0), (.int .i64 0), (.slice none 0 0)]]) (HS.out.sel [1, 0] (by decide)) hs (fun k_ hk_ => ⟨_, List.mem_cons_self, hk_⟩)); clear HS hs; have HS := n_; clear n_; simp only [List.cons_append, List.nil_append] at HS) | (go_at_call 100; refine (HB.out k1 h1 d n B b l _ (HS.out.at (i := 0) rfl) (HS.out.at (i := 1) rfl) (fun q h1 h2 => HS.out.disj2 (i := 1) (j := 0) rfl rfl (by decide) q h1 h2) (HC.out.apart HS.out (fun _ h => h) 1 rfl) (HC.out.mod HS.out (fun _ h => h)) hk1 (by omega) (by omega) hok).mono ?_; rintro e_ w1 ⟨d2, n2, B2, b2, l2, k2, h2, rfl, hd2, hd3, hn2, hn3, hk2, hok2, hs⟩; replace HS : Aside0 (Mod _ _ _ [_, _, _]) := sM2 HS 0 1 [2] rfl rfl hs; clear hs) | ((with_reducible refine gate_store (t := 26) (p := 2) rfl ?_); refine stL HS 2 0 #[.int .i64 d2, .int .i64 n2, .slice B2 l2.length b2] rfl rfl rfl rfl rfl ?_; clear HS; intro w1 HS))
  refine bodyPost_ret (results_cell_row rfl _ _ g_r 26 #[.int .i64 d2, .int .i64 n2, .slice B2 l2.length b2] (0, 0) _ rfl (HS.out.at (i := 2) rfl) Try.underlying26 rfl (by kernel_rfl)) rfl ?_
  exact ⟨d2, n2, B2, b2, l2, k2, h2, rfl, hd2, hd3, hn2, hn3, hk2, hok2, HS.out.sel [0, 1] (by decide)⟩
end Go.Proofs.Ytibjkjhpfmmjoaa.H



namespace Go.Proofs.Ytibjkjhpfmmjoaa.H
open Go.RowKit Go.Proofs.YtibjkjhpfmmjoaaW.PrintWords Go.Proofs.YtibjkjhpfmmjoaaW.PrintLast Go.Proofs.YtibjkjhpfmmjoaaW.PrintMore Go.Proofs.Ytibjkjhpfmmjoaa.M
attribute [local go_sem] max2_int min2_int max_two min_two max_three min_three max_four min_four
set_option linter.unusedVariables false
set_option linter.unusedSimpArgs false
set_option maxRecDepth 100000
/-- The code's bytes can be read. -/
structure Bytes (w : World) (A : Option Addr) (xs : List Int) : Prop where
  r : (Kd.int .u8).C w A xs.length xs
  b : ∀ x ∈ xs, 0 ≤ x ∧ x < 256
  l : xs.length ≤ 1048576
theorem Bytes.old {w W : World} {A : Option Addr} {xs : List Int} {L : List As} (h : Bytes w A xs) (HS : Mod w W No L) : Bytes W A xs := ⟨HS.oldC h.r, h.b, h.l⟩
theorem Bytes.code {w W : World} {A : Option Addr} {xs : List Int} {L : List As} (h : Bytes w A xs) (HS : Mod w W No L) {i g t : Nat} {cs : Array Value} (hi : L[i]? = some (bx g t cs)) : Code W g A xs.length := Code.of HS hi h.r h.b
end Go.Proofs.Ytibjkjhpfmmjoaa.H


