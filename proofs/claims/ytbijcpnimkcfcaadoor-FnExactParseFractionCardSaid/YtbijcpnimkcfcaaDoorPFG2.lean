/- Plain facts and contracts of functions that the law's walk uses. Conditions: those that stand in each statement. -/
import Derived.Test.YtbijcpnimkcfcaaDoorPFG1
import Derived.Shelf.Strings.Builder1
import Derived.Shelf.Strings.Builder2
import Derived.Shelf.Strings.OnBuilder
import Derived.Shelf.Small.Strs
import Derived.Shelf.Strings.BuilderF
import Derived.Shelf.Strings.BuilderK
import Derived.Shelf.Utf8.RuneCount
import Derived.Shelf.Strings.Builder2Cap
import Derived.Shelf.Strconv.Itoa0
import Derived.Shelf.Strconv.Itoa1
import Derived.Shelf.LaysM
import Derived.Shelf.Strconv.Itoa2
import Derived.Shelf.Strconv.Itoa3
import Derived.Shelf.Strconv.Itoa4
import Derived.Shelf.Strconv.ParseIntEmpty
import Derived.Shelf.Strconv.Clone
import Derived.Shelf.Strconv.SyntaxError
import Derived.Shelf.LaysC
import Derived.Shelf.Strconv.ToError
import Derived.Shelf.Strconv.Lower
import Derived.Shelf.Strconv.ParseUint10
import Derived.Shelf.Strconv.ParseUint10Empty
import Derived.Shelf.Strconv.ParseUint10Any
import Derived.Shelf.Strconv.ParseInt10
import Derived.Shelf.Strconv.RangeError
import Derived.Shelf.Strconv.ToErrorRange
import Derived.Shelf.Strconv.ParseUintEmpty
import Derived.Shelf.Strconv.ParseUint10b64
import Derived.Shelf.Strconv.ParseUint10b32
import Derived.Shelf.Strconv.ParseUint10b16
import Derived.Shelf.Strconv.ParseUint10b8
import Derived.Shelf.Strconv.ParseUint10At
import Derived.Shelf.Strconv.ParseInt10At64
import Derived.Shelf.Strconv.ParseInt10At32
import Derived.Shelf.Strconv.ParseInt10At16
import Derived.Shelf.Strconv.ParseInt10At8
import Derived.Shelf.Strconv.ParseInt10All
import Derived.Shelf.Strconv.ParseIntPublic10
import Derived.Shelf.Strconv.ErrVarParseInt
import Derived.Shelf.Strings.Search1
import Derived.Shelf.Strings.Search2
import Derived.Shelf.Strings.Search3
import Derived.Shelf.Strings.Cut
import Derived.Shelf.Strings.Count
import Derived.Shelf.Strings.Shaped
import Derived.Shelf.Strings.Split
import Derived.Shelf.Strings.SplitShaped
import Derived.Shelf.Unicode.Decode
import Derived.Shelf.Strings.RuneCount
import Derived.Shelf.Strings.Explode
import Derived.Shelf.Unicode.DecodeSlow
import Derived.Shelf.Unicode.DecodeAny
import Derived.Test.YtbijcpnimkcfcaaDoorProg
import Derived.Lib.AtoiErrMem
import Derived.HandedShaped
import Derived.Stop.LaidErr
import Derived.Shelf.Vars
set_option linter.unusedVariables false
set_option linter.unusedSimpArgs false
namespace Go.Proofs.YtbijcpnimkcfcaaDoor.M
theorem pf_len {s : ByteArray} {ps : List ByteArray} (h : SplitOk s ps) (hl : ps.length ≠ 2) : PF s 0 0 6 := .inr ⟨fun ⟨x, y, _, e⟩ => hl (by rw [split_frac h e]; rfl), rfl, rfl, rfl⟩
theorem num_dec {n : Nat} {a : Int} (h : NumOk (dec n) a) (hn : n < 10000000000) : a = n := by
  rcases h with ⟨m, hm, e, rfl⟩ | ⟨h, _⟩
  · have : (n : Int) = m := itoa_inj (by omega) (by omega) (by omega) (by omega) (by rw [itoaB_nat, itoaB_nat]; exact e)
    omega
  · exact absurd ⟨n, hn, rfl⟩ h
theorem num_b {s : ByteArray} {a : Int} (h : NumOk s a) : -1 ≤ a ∧ a < 10000000000 := by
  rcases h with ⟨m, hm, _, rfl⟩ | ⟨_, rfl⟩ <;> omega
theorem num_get {s : ByteArray} {a : Int} (h : NumOk s a) (h0 : 0 ≤ a) : s = itoaB a := by
  rcases h with ⟨m, hm, e, rfl⟩ | ⟨_, rfl⟩
  · rw [itoaB_nat]; exact e
  · omega
theorem fr_bb {x y : Int} (h : isFr x y = true) : 1 ≤ y ∧ y ≤ 1000000000 ∧ -1000000000 ≤ x ∧ x ≤ 1000000000 := by
  have := (isFr_iff x y).1 h
  omega
theorem pf_pos_yes {s p0 p1 : ByteArray} {a b : Int} (h : SplitOk s [p0, p1]) (ha : NumOk p0 a) (hb : NumOk p1 b) (h0 : 0 ≤ a) (h1 : 1 ≤ b) (hf : isFr a b = true) : PF s a b 0 := by
  refine .inl ⟨hf, bl_ext ?_, rfl⟩
  rw [bl_fracT, split_two h, ← num_get ha h0, ← num_get hb (by omega)]
theorem neg_head {x : Int} (h : x < 0) : bl (itoaB x) = 45 :: Lib.decDigits x.natAbs := by
  rw [itoaB_neg h, bl_append, bl_dec]; rfl
theorem pf_pos_no {s p0 p1 : ByteArray} {a b : Int} (h : SplitOk s [p0, p1]) (hn : ∀ h : 1 < p0.size, (p0[0]'(by omega)).toNat ≠ 45) (ha : NumOk p0 a) (hb : NumOk p1 b) (hf : a < 0 ∨ b < 1 ∨ isFr a b = false) : PF s 0 0 6 := by
  refine .inr ⟨fun ⟨x, y, hxy, e⟩ => ?_, rfl, rfl, rfl⟩
  have hp := split_frac h e
  simp only [List.cons.injEq, and_true] at hp
  obtain ⟨rfl, rfl⟩ := hp
  obtain ⟨g1, g2, g3, g4⟩ := fr_bb hxy
  have hy : b = y := by
    obtain ⟨m, rfl⟩ : ∃ m : Nat, y = m := ⟨y.toNat, by omega⟩
    rw [itoaB_nat] at hb
    exact num_dec hb (by omega)
  by_cases hx : x < 0
  · have hb2 := neg_head hx
    have hs := bl_len (itoaB x)
    rw [hb2, List.length_cons] at hs
    have hd : 0 < (Lib.decDigits x.natAbs).length := List.length_pos_iff.2 (dd_ne _)
    refine hn (by omega) ?_
    have : (bl (itoaB x))[0]'(by rw [hb2]; simp) = 45 := by simp [hb2]
    rw [show (itoaB x)[0]'(by omega) = (bl (itoaB x))[0]'(by rw [hb2]; simp) from rfl, this]; rfl
  · have hax : a = x := by
      obtain ⟨m, rfl⟩ : ∃ m : Nat, x = m := ⟨x.toNat, by omega⟩
      rw [itoaB_nat] at ha
      exact num_dec ha (by omega)
    subst hy hax
    rcases hf with hf | hf | hf
    · omega
    · omega
    · rw [hxy] at hf; cases hf
theorem neg_tail {p0 : ByteArray} (h1 : 1 < p0.size) (h45 : (p0[0]'(by omega)).toNat = 45) : bl p0 = 45 :: bl (p0.extract 1 p0.size) := by
  rw [bl_extract, List.take_of_length_le (by rw [bl_len]; omega)]
  cases hb : bl p0 with
  | nil => have := bl_len p0; rw [hb] at this; simp at this; omega
  | cons c r =>
    have hc : p0[0]'(by omega) = c := by
      have : (bl p0)[0]'(by rw [hb]; simp) = c := by simp [hb]
      exact this
    rw [hc] at h45
    have : c = 45 := UInt8.toNat_inj.1 h45
    rw [this]; rfl
theorem pf_neg_yes {s p0 p1 : ByteArray} {a b : Int} (h : SplitOk s [p0, p1]) (h1 : 1 < p0.size) (h45 : (p0[0]'(by omega)).toNat = 45) (ha : NumOk (p0.extract 1 p0.size) a) (hb : NumOk p1 b) (h0 : 0 < a) (hb1 : 1 ≤ b) (hf : isFr (-a) b = true) : PF s (-a) b 0 := by
  refine .inl ⟨hf, bl_ext ?_, rfl⟩
  rw [bl_fracT, split_two h, ← num_get hb (by omega), neg_tail h1 h45, neg_head (by omega), num_get ha (by omega)]
  obtain ⟨n, rfl⟩ : ∃ n : Nat, a = n := ⟨a.toNat, by omega⟩
  rw [itoaB_nat, bl_dec, show (-(n : Int)).natAbs = n by omega]
theorem pf_neg_no {s p0 p1 : ByteArray} {a b : Int} (h : SplitOk s [p0, p1]) (h1 : 1 < p0.size) (h45 : (p0[0]'(by omega)).toNat = 45) (ha : NumOk (p0.extract 1 p0.size) a) (hb : NumOk p1 b) (hf : a < 0 ∨ b < 1 ∨ a = 0 ∨ isFr (-a) b = false) : PF s 0 0 6 := by
  refine .inr ⟨fun ⟨x, y, hxy, e⟩ => ?_, rfl, rfl, rfl⟩
  have hp := split_frac h e
  simp only [List.cons.injEq, and_true] at hp
  obtain ⟨g1, g2, g3, g4⟩ := fr_bb hxy
  have hy : b = y := by
    obtain ⟨m, rfl⟩ : ∃ m : Nat, y = m := ⟨y.toNat, by omega⟩
    rw [hp.2, itoaB_nat] at hb
    exact num_dec hb (by omega)
  have ht := neg_tail h1 h45
  have hx : x < 0 := by
    by_cases hx : x < 0
    · exact hx
    · obtain ⟨m, rfl⟩ : ∃ m : Nat, x = m := ⟨x.toNat, by omega⟩
      rw [hp.1, itoaB_nat, bl_dec] at ht
      have := (dd_digit m m (Nat.le_refl _) 45 (by rw [ht]; exact List.mem_cons_self)).1
      exact absurd this (by decide)
  have hd : p0.extract 1 p0.size = dec x.natAbs := by
    apply bl_ext
    have h2 : bl p0 = 45 :: Lib.decDigits x.natAbs := by rw [hp.1]; exact neg_head hx
    rw [ht] at h2
    simp only [List.cons.injEq, true_and] at h2
    rw [h2, bl_dec]
  rw [hd] at ha
  have hax := num_dec ha (by omega)
  have : -a = x := by omega
  rw [this, hy, hxy] at hf
  rcases hf with hf | hf | hf | hf
  · omega
  · omega
  · omega
  · cases hf
end Go.Proofs.YtbijcpnimkcfcaaDoor.M

namespace Go.Proofs.YtbijcpnimkcfcaaDoor.H
open Go.RowKit Go.Proofs.YtbijcpnimkcfcaaDoorW.PrintWords Go.Proofs.YtbijcpnimkcfcaaDoorW.PrintLast Go.Proofs.YtbijcpnimkcfcaaDoorW.PrintMore Go.Proofs.YtbijcpnimkcfcaaDoor.M
attribute [local go_sem] max2_int min2_int max_two min_two max_three min_three max_four min_four
set_option linter.unusedVariables false
set_option linter.unusedSimpArgs false
set_option maxRecDepth 100000
theorem str_at' {w : World} {A : Option Addr} {n : Nat} {l : List ByteArray} (h : Kd.string.C w A n l) (i : Nat) (hi : i < n) : ∃ ad, A = some ad ∧ w.cell? (ad.add i) = some (.string (l.getD i ByteArray.empty)) := by
  obtain ⟨ad, c, hA, hl, hK, hc⟩ := Kd.C_get h ByteArray.empty (i : Int) (by omega) (by omega)
  simp only [Int.toNat_natCast] at hc hK
  have hK' : c = [.string (l.getD i ByteArray.empty)] := hK
  subst hK'
  have := hc 0 _ rfl
  refine ⟨ad, hA, ?_⟩
  rwa [show Kd.string.sz = 1 from rfl, Nat.mul_one, Nat.add_zero] at this
theorem Mod.sy' {w W : World} {S : Nat → Prop} {L : List As} (h : Mod w W S L) (i : Nat) {ad : Addr} {c : Nat} {u : List ByteArray} (hi : L[i]? = some (rowP (some ad) c u)) {j : Nat} {s : ByteArray} (hj : u[j]? = some s) : W.cell? (ad.add j) = some (.string s) := by
  obtain ⟨h1, h2⟩ := List.getElem?_eq_some_iff.1 hj
  obtain ⟨ad', e, h0⟩ := str_at' (h.reads i hi) j h1
  cases e
  rwa [List.getD_eq_getElem?_getD, hj] at h0
theorem Mod.sy0 {w W : World} {S : Nat → Prop} {L : List As} (h : Mod w W S L) (i : Nat) {ad : Addr} {c : Nat} {u : List ByteArray} (hi : L[i]? = some (rowP (some ad) c u)) {s : ByteArray} (hj : u[0]? = some s) : W.cell? ad = some (.string s) := h.sy' i hi hj
theorem Mod.sy1 {w W : World} {S : Nat → Prop} {L : List As} (h : Mod w W S L) (i : Nat) {ad : Addr} {c : Nat} {u : List ByteArray} (hi : L[i]? = some (rowP (some ad) c u)) {s : ByteArray} (hj : u[1]? = some s) : W.cell? ⟨ad.block, ad.off + 1, none⟩ = some (.string s) := h.sy' i hi hj
theorem res_ct {P : Program} {fn : Func} {p u : Tmp} {ty : TypeId} (h : fn.results = #[.cell p ty, .tmp u]) (tmps : Array Value) (w : World) (g : Nat) (t : TypeId) (cs : Array Value) (fr : Nat × Nat) (d : TypeDesc)
    (hp : tmps.getD p undef = .pointer (some ⟨g, 0, none⟩)) (hg : w.heap[g]? = some (.cells cs t fr))
    (hu : P.underlying ty = some d) (hd : (match d with | .struct _ | .array _ _ => true | _ => false) = true) (hi : (P.info? ty).map (·.size) = some cs.size) :
    (results fn tmps).run P w = .ok (.tuple #[.agg cs, tmps.getD u undef]) w := by
  have hp' : tmps[p]?.getD undef = .pointer (some ⟨g, 0, none⟩) := by simpa using hp
  simp [results, h, hp', asAddr, Sem.run_bind, run_loadVar_row w g t ty cs fr d hg hu hd hi]
theorem Jn_le : ∀ (out : List ByteArray) (p : ByteArray), p ∈ out → p.size ≤ (Jn out).length
  | [], p, h => absurd h (by simp)
  | q :: r, p, h => by
    have e : Jn (q :: r) = bl q ++ [47] ++ Jn r := by simp [Jn]
    rw [e, List.length_append, List.length_append, bl_len]
    rcases List.mem_cons.1 h with rfl | h
    · omega
    · have := Jn_le r p h
      omega
theorem piece_size {s : ByteArray} {us : List ByteArray} (h : SplitOk s us) : ∀ p ∈ us, p.size ≤ s.size := by
  obtain ⟨out, last, rfl, h2, _⟩ := h
  intro p hp
  have hl := congrArg List.length h2
  rw [bl_len, List.length_append, bl_len] at hl
  rcases List.mem_append.1 hp with hp | hp
  · have := Jn_le out p hp
    omega
  · rw [List.mem_singleton.1 hp]; omega
def RetRF (w : World) (s : ByteArray) (e : Ending) (w' : World) : Prop := ∃ (x y : Int) (ok : Bool), e = .returned (.tuple #[.agg #[.int .i64 x, .int .i64 y], .bool ok]) ∧ PF s x y (if ok then 0 else 6) ∧ Below w.heap.size w w'
theorem retRF_mk {w w' : World} {s : ByteArray} {e : Ending} (x y : Int) (ok : Bool) (h1 : e = .returned (.tuple #[.agg #[.int .i64 x, .int .i64 y], .bool ok])) (h2 : PF s x y (if ok then 0 else 6)) (h3 : Below w.heap.size w w') : RetRF w s e w' := ⟨x, y, ok, h1, h2, h3⟩
set_option maxHeartbeats 16000000 in
theorem specReadFrac (s : ByteArray) (w : World) (hs : s.size ≤ 1048576) : Calls Tryd.prog 50 #[.string s] w (RetRF w s) := by
  have HS := Aside0.mk (Sep.refl w)
  go_enter Tryd.func50, Tryd.ntmps50
  go_upto_if 14 with (first | ((with_reducible refine gate_dst (N := 2) rfl ?_); refine bxL 26 #[(.int .i64 0), (.int .i64 0)] HS ?_; clear HS; intro g_z w1 hg_z HS) | (go_at_call 89; refine (specSplit s _ hs).mono ?_; rintro e_ w1 ⟨B, m, us, rfl, hok, hpl, hs⟩; replace HS := sN1 HS hs; clear hs; have HOK := Aside0.mk hok; clear hok))
  by_cases hl : us.length = 2
  · have HP2 : ∃ p0 p1, us = [p0, p1] := by
      match us, hl with
      | [p0, p1], _ => exact ⟨p0, p1, rfl⟩
    obtain ⟨p0, p1, hp⟩ := HP2
    have hz0 : p0.size ≤ 1048576 := Nat.le_trans (piece_size HOK.out p0 (by rw [hp]; simp)) hs
    have hz1 : p1.size ≤ 1048576 := Nat.le_trans (piece_size HOK.out p1 (by rw [hp]; simp)) hs
    have HE0 := Aside0.mk (show us[0]? = some p0 by rw [hp]; rfl)
    have HE1 := Aside0.mk (show us[1]? = some p1 by rw [hp]; rfl)
    have hl0 : 0 < us.length := by omega
    have hl1 : 1 < us.length := by omega
    have hl1i : (1 : Int) < (us.length : Int) := by omega
    have hl2 : ((us.length : Int) != 2) = false := by rw [hl]; rfl
    rw [hp] at HOK
    obtain ⟨ad, ea, h_⟩ := str_at' (HS.out.reads 0 rfl) 0 hl0
    clear h_ hl hp
    cases ea
    by_cases hone : 1 < p0.size
    · obtain ⟨c, hc⟩ : ∃ c : Int, ∀ h : 0 < p0.size, ((p0[0]'h).toNat : Int) = c := ⟨((p0[0]'(by omega)).toNat : Int), fun _ => rfl⟩
      have HC := Aside0.mk (hc (by omega))
      by_cases h45 : c = 45
      · subst h45
        have H45 := Aside0.mk (show (p0[0]'(by omega)).toNat = 45 by have := HC.out; omega)
        have hzd : (p0.extract 1 p0.size).size ≤ 1048576 := by rw [ByteArray.size_extract]; omega
        go_wp2
        replace HS := sD HS
        refine ps (.p 0 (.p 1 (.p 3 (.t 2 (.p 4 .done))))) (fun w' => w'.cell? ad = some (.string p0)) [] (HS.out.sy0 0 rfl HE0.out) (fun hHeld => ?_)
        repeat (first | ((with_reducible refine gate_p ?_); refine rp rfl rfl ?_) | ((with_reducible refine gate_t ?_); refine rt rfl rfl hHeld ?_))
        refine run_done ?_
        clear hHeld
        go_wp2
        replace HS := sD HS
        refine ps (.p 0 (.p 2 (.p 3 (.t 4 (.e 1 (.d 5 (.p 6 (.p 7 .done)))))))) (fun w' => w'.cell? ⟨ad.block, ad.off + 1, none⟩ = some (.string p1)) [5] (HS.out.sy1 0 rfl HE1.out) (fun hHeld => ?_)
        repeat (first | ((with_reducible refine gate_p ?_); refine rp rfl rfl ?_) | ((with_reducible refine gate_t ?_); refine rt rfl rfl hHeld ?_))
        refine run_e rfl (fun K hK => ?_)
        refine gc Tryd.func90 (specNumber (p0.extract 1 p0.size) _ hzd) rfl rfl ?_
        rintro e_ w1 ⟨a, rfl, ha, hb⟩
        refine ⟨_, rfl, ?_⟩
        replace HS := sB HS hb
        clear hb
        have HNA := Aside0.mk ha
        obtain ⟨hal, hah⟩ := num_b ha
        clear ha
        have hwz : IntKind.i64.wrap (-1 * a) = -a := (i64_w _).trans ((wrap_id (by omega) (by omega)).trans (by omega))
        have hwz2 : IntKind.i64.wrap (-a) = -a := (i64_w _).trans (wrap_id (by omega) (by omega))
        refine ge hK (HS.out.sy1 0 rfl HE1.out) (fun hHeld => ?_)
        clear hK K
        refine run_d rfl (fun K hK => ?_)
        refine gc Tryd.func90 (specNumber p1 _ hz1) rfl rfl ?_
        rintro e_ w1 ⟨b, rfl, hbn, hb⟩
        refine ⟨_, rfl, ?_⟩
        replace HS := sB HS hb
        clear hb
        have HNB := Aside0.mk hbn
        obtain ⟨hbl, hbh⟩ := num_b hbn
        clear hbn
        refine gd hK ?_
        clear hK K
        repeat (first | ((with_reducible refine gate_p ?_); refine rp rfl rfl ?_) | ((with_reducible refine gate_t ?_); refine rt rfl rfl hHeld ?_))
        refine run_done ?_
        clear hHeld
        go_upto_region 10 with (first | ((with_reducible refine gate_dst (N := 9) rfl ?_); refine bxL 26 #[(.int .i64 0), (.int .i64 0)] HS ?_; clear HS; intro g_q w1 hg_q HS) | ((with_reducible refine gate_store (t := 26) (p := 9) rfl ?_); refine stL HS 0 0 #[(.int .i64 (-a)), (.int .i64 b)] rfl rfl rfl rfl rfl ?_; clear HS; intro w1 HS))
        by_cases h1 : a < 0
        · skip
          go_wp2_with (first | ((with_reducible refine gate_store (t := 26) (p := 2) rfl ?_); refine stL HS 2 0 #[(.int .i64 0), (.int .i64 0)] rfl rfl rfl rfl rfl ?_; clear HS; intro w1 HS))
          refine bodyPost_ret (res_ct rfl _ _ g_z 26 #[(.int .i64 0), (.int .i64 0)] (0, 0) _ rfl (HS.out.at (i := 2) rfl) Tryd.underlying26 rfl (by kernel_rfl)) rfl ?_
          exact retRF_mk 0 0 false rfl (pf_neg_no HOK.out hone H45.out HNA.out HNB.out (.inl h1)) (HS.out.sel [] (by decide)).below
        by_cases h2 : b < 1
        · skip
          go_wp2_with (first | ((with_reducible refine gate_store (t := 26) (p := 2) rfl ?_); refine stL HS 2 0 #[(.int .i64 0), (.int .i64 0)] rfl rfl rfl rfl rfl ?_; clear HS; intro w1 HS))
          refine bodyPost_ret (res_ct rfl _ _ g_z 26 #[(.int .i64 0), (.int .i64 0)] (0, 0) _ rfl (HS.out.at (i := 2) rfl) Tryd.underlying26 rfl (by kernel_rfl)) rfl ?_
          exact retRF_mk 0 0 false rfl (pf_neg_no HOK.out hone H45.out HNA.out HNB.out (.inr (.inl h2))) (HS.out.sel [] (by decide)).below
        by_cases h3 : a = 0
        · have h3b : (a == 0) = true := by rw [h3]; rfl
          go_wp2_with (first | ((with_reducible refine gate_store (t := 26) (p := 2) rfl ?_); refine stL HS 2 0 #[(.int .i64 0), (.int .i64 0)] rfl rfl rfl rfl rfl ?_; clear HS; intro w1 HS))
          refine bodyPost_ret (res_ct rfl _ _ g_z 26 #[(.int .i64 0), (.int .i64 0)] (0, 0) _ rfl (HS.out.at (i := 2) rfl) Tryd.underlying26 rfl (by kernel_rfl)) rfl ?_
          exact retRF_mk 0 0 false rfl (pf_neg_no HOK.out hone H45.out HNA.out HNB.out (.inr (.inr (.inl h3)))) (HS.out.sel [] (by decide)).below
        have h3b : (a == 0) = false := by rw [beq_eq_false_iff_ne]; exact h3
        have HFR := Aside0.mk (fun X => specIsFrac (-a) b X)
        cases hf : isFr (-a) b with
        | false =>
          rw [hf] at HFR
          have f1_ := HS.out.c 0 0 (v := (.int .i64 (-a))) rfl rfl
          have f2_ := HS.out.c 0 1 (v := (.int .i64 b)) rfl rfl
          go_wp2_with (first | (go_at_call 40; refine (HFR.out _).mono ?_; rintro e_ w1 ⟨rfl, hb⟩; replace HS := sB HS hb; clear hb f1_ f2_) | ((with_reducible refine gate_store (t := 26) (p := 2) rfl ?_); refine stL HS 2 0 #[(.int .i64 0), (.int .i64 0)] rfl rfl rfl rfl rfl ?_; clear HS; intro w1 HS))
          refine bodyPost_ret (res_ct rfl _ _ g_z 26 #[(.int .i64 0), (.int .i64 0)] (0, 0) _ rfl (HS.out.at (i := 2) rfl) Tryd.underlying26 rfl (by kernel_rfl)) rfl ?_
          exact retRF_mk 0 0 false rfl (pf_neg_no HOK.out hone H45.out HNA.out HNB.out (.inr (.inr (.inr hf)))) (HS.out.sel [] (by decide)).below
        | true =>
          rw [hf] at HFR
          have f1_ := HS.out.c 0 0 (v := (.int .i64 (-a))) rfl rfl
          have f2_ := HS.out.c 0 1 (v := (.int .i64 b)) rfl rfl
          go_wp2_with (first | (go_at_call 40; refine (HFR.out _).mono ?_; rintro e_ w1 ⟨rfl, hb⟩; replace HS := sB HS hb; clear hb f1_ f2_; have f1_ := HS.out.c 0 0 (v := (.int .i64 (-a))) rfl rfl; have f2_ := HS.out.c 0 1 (v := (.int .i64 b)) rfl rfl) | ((with_reducible refine gate_store (t := 26) (p := 2) rfl ?_); refine stL HS 2 0 #[(.int .i64 (-a)), (.int .i64 b)] rfl rfl rfl rfl rfl ?_; clear HS f1_ f2_; intro w1 HS))
          refine bodyPost_ret (res_ct rfl _ _ g_z 26 #[(.int .i64 (-a)), (.int .i64 b)] (0, 0) _ rfl (HS.out.at (i := 2) rfl) Tryd.underlying26 rfl (by kernel_rfl)) rfl ?_
          exact retRF_mk (-a) b true rfl (pf_neg_yes HOK.out hone H45.out HNA.out HNB.out (by omega) (by omega) hf) (HS.out.sel [] (by decide)).below
      · have HNF := Aside0.mk (show ∀ h : 1 < p0.size, (p0[0]'(by omega)).toNat ≠ 45 from fun h => by have := HC.out; omega)
        have h45b : (c == 45) = false := by rw [beq_eq_false_iff_ne]; exact h45
        go_wp2
        replace HS := sD HS
        refine ps (.p 0 (.p 1 (.p 3 (.t 2 (.p 4 .done))))) (fun w' => w'.cell? ad = some (.string p0)) [] (HS.out.sy0 0 rfl HE0.out) (fun hHeld => ?_)
        repeat (first | ((with_reducible refine gate_p ?_); refine rp rfl rfl ?_) | ((with_reducible refine gate_t ?_); refine rt rfl rfl hHeld ?_))
        refine run_done ?_
        clear hHeld
        go_wp2
        replace HS := sD HS
        refine ps (.p 0 (.p 2 (.p 3 (.t 4 (.e 1 (.d 5 (.p 6 (.p 7 .done)))))))) (fun w' => w'.cell? ⟨ad.block, ad.off + 1, none⟩ = some (.string p1)) [5] (HS.out.sy1 0 rfl HE1.out) (fun hHeld => ?_)
        repeat (first | ((with_reducible refine gate_p ?_); refine rp rfl rfl ?_) | ((with_reducible refine gate_t ?_); refine rt rfl rfl hHeld ?_))
        refine run_e rfl (fun K hK => ?_)
        refine gc Tryd.func90 (specNumber (p0) _ hz0) rfl rfl ?_
        rintro e_ w1 ⟨a, rfl, ha, hb⟩
        refine ⟨_, rfl, ?_⟩
        replace HS := sB HS hb
        clear hb
        have HNA := Aside0.mk ha
        obtain ⟨hal, hah⟩ := num_b ha
        clear ha
        have hwz : IntKind.i64.wrap a = a := (i64_w _).trans (wrap_id (by omega) (by omega))
        refine ge hK (HS.out.sy1 0 rfl HE1.out) (fun hHeld => ?_)
        clear hK K
        refine run_d rfl (fun K hK => ?_)
        refine gc Tryd.func90 (specNumber p1 _ hz1) rfl rfl ?_
        rintro e_ w1 ⟨b, rfl, hbn, hb⟩
        refine ⟨_, rfl, ?_⟩
        replace HS := sB HS hb
        clear hb
        have HNB := Aside0.mk hbn
        obtain ⟨hbl, hbh⟩ := num_b hbn
        clear hbn
        refine gd hK ?_
        clear hK K
        repeat (first | ((with_reducible refine gate_p ?_); refine rp rfl rfl ?_) | ((with_reducible refine gate_t ?_); refine rt rfl rfl hHeld ?_))
        refine run_done ?_
        clear hHeld
        go_upto_region 10 with (first | ((with_reducible refine gate_dst (N := 9) rfl ?_); refine bxL 26 #[(.int .i64 0), (.int .i64 0)] HS ?_; clear HS; intro g_q w1 hg_q HS) | ((with_reducible refine gate_store (t := 26) (p := 9) rfl ?_); refine stL HS 0 0 #[(.int .i64 a), (.int .i64 b)] rfl rfl rfl rfl rfl ?_; clear HS; intro w1 HS))
        by_cases h1 : a < 0
        · skip
          go_wp2_with (first | ((with_reducible refine gate_store (t := 26) (p := 2) rfl ?_); refine stL HS 2 0 #[(.int .i64 0), (.int .i64 0)] rfl rfl rfl rfl rfl ?_; clear HS; intro w1 HS))
          refine bodyPost_ret (res_ct rfl _ _ g_z 26 #[(.int .i64 0), (.int .i64 0)] (0, 0) _ rfl (HS.out.at (i := 2) rfl) Tryd.underlying26 rfl (by kernel_rfl)) rfl ?_
          exact retRF_mk 0 0 false rfl (pf_pos_no HOK.out HNF.out HNA.out HNB.out (.inl h1)) (HS.out.sel [] (by decide)).below
        by_cases h2 : b < 1
        · skip
          go_wp2_with (first | ((with_reducible refine gate_store (t := 26) (p := 2) rfl ?_); refine stL HS 2 0 #[(.int .i64 0), (.int .i64 0)] rfl rfl rfl rfl rfl ?_; clear HS; intro w1 HS))
          refine bodyPost_ret (res_ct rfl _ _ g_z 26 #[(.int .i64 0), (.int .i64 0)] (0, 0) _ rfl (HS.out.at (i := 2) rfl) Tryd.underlying26 rfl (by kernel_rfl)) rfl ?_
          exact retRF_mk 0 0 false rfl (pf_pos_no HOK.out HNF.out HNA.out HNB.out (.inr (.inl h2))) (HS.out.sel [] (by decide)).below
        have HFR := Aside0.mk (fun X => specIsFrac a b X)
        cases hf : isFr a b with
        | false =>
          rw [hf] at HFR
          have f1_ := HS.out.c 0 0 (v := (.int .i64 a)) rfl rfl
          have f2_ := HS.out.c 0 1 (v := (.int .i64 b)) rfl rfl
          go_wp2_with (first | (go_at_call 40; refine (HFR.out _).mono ?_; rintro e_ w1 ⟨rfl, hb⟩; replace HS := sB HS hb; clear hb f1_ f2_) | ((with_reducible refine gate_store (t := 26) (p := 2) rfl ?_); refine stL HS 2 0 #[(.int .i64 0), (.int .i64 0)] rfl rfl rfl rfl rfl ?_; clear HS; intro w1 HS))
          refine bodyPost_ret (res_ct rfl _ _ g_z 26 #[(.int .i64 0), (.int .i64 0)] (0, 0) _ rfl (HS.out.at (i := 2) rfl) Tryd.underlying26 rfl (by kernel_rfl)) rfl ?_
          exact retRF_mk 0 0 false rfl (pf_pos_no HOK.out HNF.out HNA.out HNB.out (.inr (.inr hf))) (HS.out.sel [] (by decide)).below
        | true =>
          rw [hf] at HFR
          have f1_ := HS.out.c 0 0 (v := (.int .i64 a)) rfl rfl
          have f2_ := HS.out.c 0 1 (v := (.int .i64 b)) rfl rfl
          go_wp2_with (first | (go_at_call 40; refine (HFR.out _).mono ?_; rintro e_ w1 ⟨rfl, hb⟩; replace HS := sB HS hb; clear hb f1_ f2_; have f1_ := HS.out.c 0 0 (v := (.int .i64 a)) rfl rfl; have f2_ := HS.out.c 0 1 (v := (.int .i64 b)) rfl rfl) | ((with_reducible refine gate_store (t := 26) (p := 2) rfl ?_); refine stL HS 2 0 #[(.int .i64 a), (.int .i64 b)] rfl rfl rfl rfl rfl ?_; clear HS f1_ f2_; intro w1 HS))
          refine bodyPost_ret (res_ct rfl _ _ g_z 26 #[(.int .i64 a), (.int .i64 b)] (0, 0) _ rfl (HS.out.at (i := 2) rfl) Tryd.underlying26 rfl (by kernel_rfl)) rfl ?_
          exact retRF_mk a b true rfl (pf_pos_yes HOK.out HNA.out HNB.out (by omega) (by omega) hf) (HS.out.sel [] (by decide)).below
    · have HNF := Aside0.mk (show ∀ h : 1 < p0.size, (p0[0]'(by omega)).toNat ≠ 45 from fun h => absurd h hone)
      go_wp2
      replace HS := sD HS
      refine ps (.p 0 (.p 1 (.p 3 (.t 2 (.p 4 .done))))) (fun w' => w'.cell? ad = some (.string p0)) [] (HS.out.sy0 0 rfl HE0.out) (fun hHeld => ?_)
      repeat (first | ((with_reducible refine gate_p ?_); refine rp rfl rfl ?_) | ((with_reducible refine gate_t ?_); refine rt rfl rfl hHeld ?_))
      refine run_done ?_
      clear hHeld
      go_wp2
      replace HS := sD HS
      refine ps (.p 0 (.p 2 (.p 3 (.t 4 (.e 1 (.d 5 (.p 6 (.p 7 .done)))))))) (fun w' => w'.cell? ⟨ad.block, ad.off + 1, none⟩ = some (.string p1)) [5] (HS.out.sy1 0 rfl HE1.out) (fun hHeld => ?_)
      repeat (first | ((with_reducible refine gate_p ?_); refine rp rfl rfl ?_) | ((with_reducible refine gate_t ?_); refine rt rfl rfl hHeld ?_))
      refine run_e rfl (fun K hK => ?_)
      refine gc Tryd.func90 (specNumber (p0) _ hz0) rfl rfl ?_
      rintro e_ w1 ⟨a, rfl, ha, hb⟩
      refine ⟨_, rfl, ?_⟩
      replace HS := sB HS hb
      clear hb
      have HNA := Aside0.mk ha
      obtain ⟨hal, hah⟩ := num_b ha
      clear ha
      have hwz : IntKind.i64.wrap a = a := (i64_w _).trans (wrap_id (by omega) (by omega))
      refine ge hK (HS.out.sy1 0 rfl HE1.out) (fun hHeld => ?_)
      clear hK K
      refine run_d rfl (fun K hK => ?_)
      refine gc Tryd.func90 (specNumber p1 _ hz1) rfl rfl ?_
      rintro e_ w1 ⟨b, rfl, hbn, hb⟩
      refine ⟨_, rfl, ?_⟩
      replace HS := sB HS hb
      clear hb
      have HNB := Aside0.mk hbn
      obtain ⟨hbl, hbh⟩ := num_b hbn
      clear hbn
      refine gd hK ?_
      clear hK K
      repeat (first | ((with_reducible refine gate_p ?_); refine rp rfl rfl ?_) | ((with_reducible refine gate_t ?_); refine rt rfl rfl hHeld ?_))
      refine run_done ?_
      clear hHeld
      go_upto_region 10 with (first | ((with_reducible refine gate_dst (N := 9) rfl ?_); refine bxL 26 #[(.int .i64 0), (.int .i64 0)] HS ?_; clear HS; intro g_q w1 hg_q HS) | ((with_reducible refine gate_store (t := 26) (p := 9) rfl ?_); refine stL HS 0 0 #[(.int .i64 a), (.int .i64 b)] rfl rfl rfl rfl rfl ?_; clear HS; intro w1 HS))
      by_cases h1 : a < 0
      · skip
        go_wp2_with (first | ((with_reducible refine gate_store (t := 26) (p := 2) rfl ?_); refine stL HS 2 0 #[(.int .i64 0), (.int .i64 0)] rfl rfl rfl rfl rfl ?_; clear HS; intro w1 HS))
        refine bodyPost_ret (res_ct rfl _ _ g_z 26 #[(.int .i64 0), (.int .i64 0)] (0, 0) _ rfl (HS.out.at (i := 2) rfl) Tryd.underlying26 rfl (by kernel_rfl)) rfl ?_
        exact retRF_mk 0 0 false rfl (pf_pos_no HOK.out HNF.out HNA.out HNB.out (.inl h1)) (HS.out.sel [] (by decide)).below
      by_cases h2 : b < 1
      · skip
        go_wp2_with (first | ((with_reducible refine gate_store (t := 26) (p := 2) rfl ?_); refine stL HS 2 0 #[(.int .i64 0), (.int .i64 0)] rfl rfl rfl rfl rfl ?_; clear HS; intro w1 HS))
        refine bodyPost_ret (res_ct rfl _ _ g_z 26 #[(.int .i64 0), (.int .i64 0)] (0, 0) _ rfl (HS.out.at (i := 2) rfl) Tryd.underlying26 rfl (by kernel_rfl)) rfl ?_
        exact retRF_mk 0 0 false rfl (pf_pos_no HOK.out HNF.out HNA.out HNB.out (.inr (.inl h2))) (HS.out.sel [] (by decide)).below
      have HFR := Aside0.mk (fun X => specIsFrac a b X)
      cases hf : isFr a b with
      | false =>
        rw [hf] at HFR
        have f1_ := HS.out.c 0 0 (v := (.int .i64 a)) rfl rfl
        have f2_ := HS.out.c 0 1 (v := (.int .i64 b)) rfl rfl
        go_wp2_with (first | (go_at_call 40; refine (HFR.out _).mono ?_; rintro e_ w1 ⟨rfl, hb⟩; replace HS := sB HS hb; clear hb f1_ f2_) | ((with_reducible refine gate_store (t := 26) (p := 2) rfl ?_); refine stL HS 2 0 #[(.int .i64 0), (.int .i64 0)] rfl rfl rfl rfl rfl ?_; clear HS; intro w1 HS))
        refine bodyPost_ret (res_ct rfl _ _ g_z 26 #[(.int .i64 0), (.int .i64 0)] (0, 0) _ rfl (HS.out.at (i := 2) rfl) Tryd.underlying26 rfl (by kernel_rfl)) rfl ?_
        exact retRF_mk 0 0 false rfl (pf_pos_no HOK.out HNF.out HNA.out HNB.out (.inr (.inr hf))) (HS.out.sel [] (by decide)).below
      | true =>
        rw [hf] at HFR
        have f1_ := HS.out.c 0 0 (v := (.int .i64 a)) rfl rfl
        have f2_ := HS.out.c 0 1 (v := (.int .i64 b)) rfl rfl
        go_wp2_with (first | (go_at_call 40; refine (HFR.out _).mono ?_; rintro e_ w1 ⟨rfl, hb⟩; replace HS := sB HS hb; clear hb f1_ f2_; have f1_ := HS.out.c 0 0 (v := (.int .i64 a)) rfl rfl; have f2_ := HS.out.c 0 1 (v := (.int .i64 b)) rfl rfl) | ((with_reducible refine gate_store (t := 26) (p := 2) rfl ?_); refine stL HS 2 0 #[(.int .i64 a), (.int .i64 b)] rfl rfl rfl rfl rfl ?_; clear HS f1_ f2_; intro w1 HS))
        refine bodyPost_ret (res_ct rfl _ _ g_z 26 #[(.int .i64 a), (.int .i64 b)] (0, 0) _ rfl (HS.out.at (i := 2) rfl) Tryd.underlying26 rfl (by kernel_rfl)) rfl ?_
        exact retRF_mk a b true rfl (pf_pos_yes HOK.out HNA.out HNB.out (by omega) (by omega) hf) (HS.out.sel [] (by decide)).below
  · have hl2 : ((us.length : Int) != 2) = true := by rw [bne_iff_ne]; omega
    go_wp2_with (first | ((with_reducible refine gate_store (t := 26) (p := 2) rfl ?_); refine stL HS 1 0 #[(.int .i64 0), (.int .i64 0)] rfl rfl rfl rfl rfl ?_; clear HS; intro w1 HS))
    refine bodyPost_ret (res_ct rfl _ _ g_z 26 #[(.int .i64 0), (.int .i64 0)] (0, 0) _ rfl (HS.out.at (i := 1) rfl) Tryd.underlying26 rfl (by kernel_rfl)) rfl ?_
    exact retRF_mk 0 0 false rfl (pf_len HOK.out hl) (HS.out.sel [] (by decide)).below
def RetPF (w : World) (s : ByteArray) (e : Ending) (w' : World) : Prop := ∃ x y q : Int, e = .returned (.tuple #[.agg #[.int .i64 x, .int .i64 y], .int .i64 q]) ∧ PF s x y q ∧ Below w.heap.size w w'
theorem retPF_mk {w w' : World} {s : ByteArray} {e : Ending} (x y q : Int) (h1 : e = .returned (.tuple #[.agg #[.int .i64 x, .int .i64 y], .int .i64 q])) (h2 : PF s x y q) (h3 : Below w.heap.size w w') : RetPF w s e w' := ⟨x, y, q, h1, h2, h3⟩
theorem PF_zero {s : ByteArray} {x y : Int} (h : PF s x y 6) : x = 0 ∧ y = 0 := by
  rcases h with ⟨_, _, h⟩ | ⟨_, h1, h2, _⟩
  · omega
  · exact ⟨h1, h2⟩
set_option maxHeartbeats 16000000 in
theorem specParseFraction (s : ByteArray) (w : World) (hs : s.size ≤ 1048576) : Calls Tryd.prog 16 #[.string s] w (RetPF w s) := by
  have HS := Aside0.mk (Sep.refl w)
  go_enter Tryd.func16, Tryd.ntmps16
  go_upto_if 12 with (first | ((with_reducible refine gate_dst (N := 2) rfl ?_); refine bxL 26 #[(.int .i64 0), (.int .i64 0)] HS ?_; clear HS; intro g_z w1 hg_z HS) | (go_at_call 50; refine (specReadFrac s _ hs).mono ?_; rintro e_ w1 ⟨x, y, ok, rfl, hpf, hb⟩; replace HS := sB HS hb; clear hb; have HPF := Aside0.mk hpf; clear hpf) | ((with_reducible refine gate_dst (N := 4) rfl ?_); refine bxL 26 #[(.int .i64 0), (.int .i64 0)] HS ?_; clear HS; intro g_q w1 hg_q HS) | ((with_reducible refine gate_store (t := 26) (p := 4) rfl ?_); refine stL HS 0 0 #[.int .i64 x, .int .i64 y] rfl rfl rfl rfl rfl ?_; clear HS; intro w1 HS))
  cases ok with
  | false =>
    go_wp2_with (first | ((with_reducible refine gate_store (t := 26) (p := 2) rfl ?_); refine stL HS 1 0 #[(.int .i64 0), (.int .i64 0)] rfl rfl rfl rfl rfl ?_; clear HS; intro w1 HS))
    refine bodyPost_ret (res_ct rfl _ _ g_z 26 #[(.int .i64 0), (.int .i64 0)] (0, 0) _ rfl (HS.out.at (i := 1) rfl) Tryd.underlying26 rfl (by kernel_rfl)) rfl ?_
    have h6 := PF_zero HPF.out
    exact retPF_mk 0 0 6 rfl (by have := HPF.out; rw [h6.1, h6.2] at this; exact this) (HS.out.sel [] (by decide)).below
  | true =>
    have f1_ := HS.out.c 0 0 (v := .int .i64 x) rfl rfl
    have f2_ := HS.out.c 0 1 (v := .int .i64 y) rfl rfl
    go_wp2_with (first | ((with_reducible refine gate_store (t := 26) (p := 2) rfl ?_); refine stL HS 1 0 #[.int .i64 x, .int .i64 y] rfl rfl rfl rfl rfl ?_; clear HS f1_ f2_; intro w1 HS))
    refine bodyPost_ret (res_ct rfl _ _ g_z 26 #[.int .i64 x, .int .i64 y] (0, 0) _ rfl (HS.out.at (i := 1) rfl) Tryd.underlying26 rfl (by kernel_rfl)) rfl ?_
    exact retPF_mk x y 0 rfl HPF.out (HS.out.sel [] (by decide)).below
end Go.Proofs.YtbijcpnimkcfcaaDoor.H



namespace Go.Proofs
open Go.Shelf
def Tryd.lays145_ren : Go.Shelf.Ren := ⟨fun | 145 => 51 | 220 => 91 | 219 => 106 | 217 => 117 | 225 => 118 | 224 => 119 | 267 => 120 | 266 => 136 | 314 => 137 | n => n, fun | 9 => 9 | 4 => 4 | 59 => 68 | 3 => 3 | 5 => 5 | 46 => 119 | 146 => 154 | 51 => 153 | n => n, fun | 1 => 0 | n => n⟩
theorem Tryd.lays145 : Go.Proofs.Lays.n145 Tryd.prog Tryd.lays145_ren := {
  mixed := by kernel_rfl
  f145 := Tryd.func51.trans (congrArg some (by kernel_rfl))
  f217 := Tryd.func117.trans (congrArg some (by kernel_rfl))
  f219 := Tryd.func106.trans (congrArg some (by kernel_rfl))
  f220 := Tryd.func91.trans (congrArg some (by kernel_rfl))
  f224 := Tryd.func119.trans (congrArg some (by kernel_rfl))
  f225 := Tryd.func118.trans (congrArg some (by kernel_rfl))
  f266 := Tryd.func136.trans (congrArg some (by kernel_rfl))
  f267 := Tryd.func120.trans (congrArg some (by kernel_rfl))
  f314 := Tryd.func137.trans (congrArg some (by kernel_rfl))
  t3 := Tryd.underlying3
  a3 := Tryd.isAgg3
  z3 := Tryd.sizeOf3
  v3 := Tryd.zeroValue3
  t4 := Tryd.underlying4
  a4 := Tryd.isAgg4
  z4 := Tryd.sizeOf4
  v4 := Tryd.zeroValue4
  t5 := Tryd.underlying5
  a5 := Tryd.isAgg5
  z5 := Tryd.sizeOf5
  v5 := Tryd.zeroValue5
  t9 := Tryd.underlying9
  a9 := Tryd.isAgg9
  z9 := Tryd.sizeOf9
  v9 := Tryd.zeroValue9
  t46 := Tryd.underlying119
  a46 := Tryd.isAgg119
  z46 := Tryd.sizeOf119
  v46 := Tryd.zeroValue119
  t51 := Tryd.underlying153
  a51 := Tryd.isAgg153
  z51 := Tryd.sizeOf153
  v51 := Tryd.zeroValue153
  t59 := Tryd.underlying68
  a59 := Tryd.isAgg68
  z59 := Tryd.sizeOf68
  v59 := Tryd.zeroValue68
  t146 := Tryd.underlying154
  a146 := Tryd.isAgg154
  z146 := Tryd.sizeOf154
  v146 := Tryd.zeroValue154
  g1 := by kernel_rfl }
open Go.RowKit Go.Lib in
theorem Tryd.strings_Cut (s sep : ByteArray) (m : Int) (w : World) (hs : s.size < 4294967281) (hm : w.cell? ⟨0, 0, none⟩ = some (.int .i64 m)) :
    Calls Tryd.prog 51 #[.string s, .string sep] w fun e w' => e = .returned (.tuple #[.string ⟨(Lib.cut s.data.toList sep.data.toList).1.toArray⟩, .string ⟨(Lib.cut s.data.toList sep.data.toList).2.1.toArray⟩, .bool (Lib.cut s.data.toList sep.data.toList).2.2]) ∧ ∃ n, w' = w.drewN n := Any.strings_Cut Tryd.lays145 s sep m w hs hm
def Tryd.laysC174_ren : Go.Shelf.Ren := ⟨fun | 174 => 92 | 247 => 107 | 245 => 108 | 287 => 121 | 279 => 122 | 280 => 123 | 281 => 124 | 282 => 125 | 321 => 138 | 322 => 139 | 316 => 140 | 171 => 142 | 205 => 141 | 243 => 150 | 246 => 113 | 283 => 129 | 284 => 130 | 285 => 131 | 286 => 132 | 129 => 145 | 317 => 144 | 318 => 146 | 319 => 147 | 320 => 148 | 337 => 151 | 338 => 152 | n => n, fun | 9 => 9 | 3 => 3 | 2 => 2 | 75 => 106 | 85 => 107 | 4 => 4 | 167 => 136 | 5 => 5 | 53 => 112 | 175 => 137 | 46 => 119 | 168 => 139 | 37 => 48 | 0 => 0 | 210 => 159 | 21 => 21 | 127 => 133 | 145 => 168 | 143 => 166 | 171 => 145 | 173 => 148 | 212 => 162 | 51 => 153 | 20 => 20 | 213 => 163 | 232 => 174 | 233 => 175 | 80 => 129 | n => n, fun | 15 => 1 | 16 => 2 | 17 => 3 | 18 => 6 | 19 => 7 | n => n⟩
theorem Tryd.laysC174 : Go.Proofs.LaysC.n174 Tryd.prog Tryd.laysC174_ren := {
  mixed := by kernel_rfl
  f129 := Tryd.func145.trans (congrArg some (by kernel_rfl))
  f171 := Tryd.func142.trans (congrArg some (by kernel_rfl))
  f174 := Tryd.func92.trans (congrArg some (by kernel_rfl))
  f205 := Tryd.func141.trans (congrArg some (by kernel_rfl))
  f243 := Tryd.func150.trans (congrArg some (by kernel_rfl))
  f245 := Tryd.func108.trans (congrArg some (by kernel_rfl))
  f246 := Tryd.func113.trans (congrArg some (by kernel_rfl))
  f247 := Tryd.func107.trans (congrArg some (by kernel_rfl))
  f279 := Tryd.func122.trans (congrArg some (by kernel_rfl))
  f280 := Tryd.func123.trans (congrArg some (by kernel_rfl))
  f281 := Tryd.func124.trans (congrArg some (by kernel_rfl))
  f282 := Tryd.func125.trans (congrArg some (by kernel_rfl))
  f283 := Tryd.func129.trans (congrArg some (by kernel_rfl))
  f284 := Tryd.func130.trans (congrArg some (by kernel_rfl))
  f285 := Tryd.func131.trans (congrArg some (by kernel_rfl))
  f286 := Tryd.func132.trans (congrArg some (by kernel_rfl))
  f287 := Tryd.func121.trans (congrArg some (by kernel_rfl))
  f316 := Tryd.func140.trans (congrArg some (by kernel_rfl))
  f317 := Tryd.func144.trans (congrArg some (by kernel_rfl))
  f318 := Tryd.func146.trans (congrArg some (by kernel_rfl))
  f319 := Tryd.func147.trans (congrArg some (by kernel_rfl))
  f320 := Tryd.func148.trans (congrArg some (by kernel_rfl))
  f321 := Tryd.func138.trans (congrArg some (by kernel_rfl))
  f322 := Tryd.func139.trans (congrArg some (by kernel_rfl))
  f337 := Tryd.func151.trans (congrArg some (by kernel_rfl))
  f338 := Tryd.func152.trans (congrArg some (by kernel_rfl))
  t0 := Tryd.underlying0
  a0 := Tryd.isAgg0
  z0 := Tryd.sizeOf0
  v0 := Tryd.zeroValue0
  t2 := Tryd.underlying2
  a2 := Tryd.isAgg2
  z2 := Tryd.sizeOf2
  v2 := Tryd.zeroValue2
  t3 := Tryd.underlying3
  a3 := Tryd.isAgg3
  z3 := Tryd.sizeOf3
  v3 := Tryd.zeroValue3
  t4 := Tryd.underlying4
  a4 := Tryd.isAgg4
  z4 := Tryd.sizeOf4
  v4 := Tryd.zeroValue4
  t5 := Tryd.underlying5
  a5 := Tryd.isAgg5
  z5 := Tryd.sizeOf5
  v5 := Tryd.zeroValue5
  t9 := Tryd.underlying9
  a9 := Tryd.isAgg9
  z9 := Tryd.sizeOf9
  v9 := Tryd.zeroValue9
  t20 := Tryd.underlying20
  a20 := Tryd.isAgg20
  z20 := Tryd.sizeOf20
  v20 := Tryd.zeroValue20
  t21 := Tryd.underlying21
  a21 := Tryd.isAgg21
  z21 := Tryd.sizeOf21
  v21 := Tryd.zeroValue21
  t37 := Tryd.underlying48
  a37 := Tryd.isAgg48
  z37 := Tryd.sizeOf48
  v37 := Tryd.zeroValue48
  t46 := Tryd.underlying119
  a46 := Tryd.isAgg119
  z46 := Tryd.sizeOf119
  v46 := Tryd.zeroValue119
  t51 := Tryd.underlying153
  a51 := Tryd.isAgg153
  z51 := Tryd.sizeOf153
  v51 := Tryd.zeroValue153
  t53 := Tryd.underlying112
  a53 := Tryd.isAgg112
  z53 := Tryd.sizeOf112
  v53 := Tryd.zeroValue112
  t75 := Tryd.underlying106
  a75 := Tryd.isAgg106
  z75 := Tryd.sizeOf106
  v75 := Tryd.zeroValue106
  t85 := Tryd.underlying107
  a85 := Tryd.isAgg107
  z85 := Tryd.sizeOf107
  v85 := Tryd.zeroValue107
  t127 := Tryd.underlying133
  a127 := Tryd.isAgg133
  z127 := Tryd.sizeOf133
  v127 := Tryd.zeroValue133
  t143 := Tryd.underlying166
  a143 := Tryd.isAgg166
  z143 := Tryd.sizeOf166
  v143 := Tryd.zeroValue166
  t145 := Tryd.underlying168
  a145 := Tryd.isAgg168
  z145 := Tryd.sizeOf168
  v145 := Tryd.zeroValue168
  t167 := Tryd.underlying136
  a167 := Tryd.isAgg136
  z167 := Tryd.sizeOf136
  v167 := Tryd.zeroValue136
  t168 := Tryd.underlying139
  a168 := Tryd.isAgg139
  z168 := Tryd.sizeOf139
  v168 := Tryd.zeroValue139
  t171 := Tryd.underlying145
  a171 := Tryd.isAgg145
  z171 := Tryd.sizeOf145
  v171 := Tryd.zeroValue145
  t173 := Tryd.underlying148
  a173 := Tryd.isAgg148
  z173 := Tryd.sizeOf148
  v173 := Tryd.zeroValue148
  t175 := Tryd.underlying137
  a175 := Tryd.isAgg137
  z175 := Tryd.sizeOf137
  v175 := Tryd.zeroValue137
  t210 := Tryd.underlying159
  a210 := Tryd.isAgg159
  z210 := Tryd.sizeOf159
  v210 := Tryd.zeroValue159
  t212 := Tryd.underlying162
  a212 := Tryd.isAgg162
  z212 := Tryd.sizeOf162
  v212 := Tryd.zeroValue162
  t213 := Tryd.underlying163
  a213 := Tryd.isAgg163
  z213 := Tryd.sizeOf163
  t232 := Tryd.underlying174
  a232 := Tryd.isAgg174
  z232 := Tryd.sizeOf174
  v232 := Tryd.zeroValue174
  t233 := Tryd.underlying175
  a233 := Tryd.isAgg175
  z233 := Tryd.sizeOf175
  v233 := Tryd.zeroValue175
  g15 := by kernel_rfl
  g16 := by kernel_rfl
  g17 := by kernel_rfl
  g18 := by kernel_rfl
  g19 := by kernel_rfl
  t80 := Tryd.underlying129
  a80 := Tryd.isAgg129
  z80 := Tryd.sizeOf129
  v80 := Tryd.zeroValue129
  i0 := by kernel_rfl
  i2 := by kernel_rfl
  i3 := by kernel_rfl
  i4 := by kernel_rfl
  i5 := by kernel_rfl
  i9 := by kernel_rfl
  i20 := by kernel_rfl
  i21 := by kernel_rfl
  i37 := by kernel_rfl
  i46 := by kernel_rfl
  i51 := by kernel_rfl
  i53 := by kernel_rfl
  i75 := by kernel_rfl
  i80 := by kernel_rfl
  i85 := by kernel_rfl
  i127 := by kernel_rfl
  i143 := by kernel_rfl
  i145 := by kernel_rfl
  i167 := by kernel_rfl
  i168 := by kernel_rfl
  i171 := by kernel_rfl
  i173 := by kernel_rfl
  i175 := by kernel_rfl
  i210 := by kernel_rfl
  i212 := by kernel_rfl
  i232 := by kernel_rfl
  i233 := by kernel_rfl
  m15 := by kernel_rfl
  m16 := by kernel_rfl
  m17 := by kernel_rfl
  m18 := by kernel_rfl
  m19 := by kernel_rfl
  c0 := by kernel_rfl
  c2 := by kernel_rfl
  c3 := by kernel_rfl
  c4 := by kernel_rfl
  c5 := by kernel_rfl
  c9 := by kernel_rfl
  c20 := by kernel_rfl
  c21 := by kernel_rfl
  c37 := by kernel_rfl
  c46 := by kernel_rfl
  c51 := by kernel_rfl
  c53 := by kernel_rfl
  c75 := by kernel_rfl
  c80 := by kernel_rfl
  c85 := by kernel_rfl
  c127 := by kernel_rfl
  c143 := by kernel_rfl
  c145 := by kernel_rfl
  c167 := by kernel_rfl
  c168 := by kernel_rfl
  c171 := by kernel_rfl
  c173 := by kernel_rfl
  c175 := by kernel_rfl
  c210 := by kernel_rfl
  c212 := by kernel_rfl
  c213 := by kernel_rfl
  c232 := by kernel_rfl
  c233 := by kernel_rfl }
open Go.RowKit in
theorem Tryd.strconv_ParseInt_10_at64_ok (s : ByteArray) (hmax : s.size ≤ 9223372036854775806) (v : Int) (h : Lib.parseIntB 64 s.data.toList = .ok v) (w : World) :
    Calls Tryd.prog 92 #[.string s, .int .i64 10, .int .i64 64] w fun e w' => e = .returned (.tuple #[.int .i64 v, .nilIface]) ∧ (w' = w ∨ ∃ t, w' = Lib.bytesWorld w 5 t) := Any.strconv_ParseInt_10_at64_ok Tryd.laysC174 s hmax v h w
open Go.RowKit in
theorem Tryd.strconv_ParseInt_10_at64_syntax (s : ByteArray) (hlim : s.size ≤ 281474976710656) (h : Lib.parseIntB 64 s.data.toList = .«syntax») (ev : Value) (w : World) (hv : w.cell? ⟨1, 0, none⟩ = some ev) (hev : ev = .nilIface ∨ ∃ te pe, ev = .iface te pe) :
    Calls Tryd.prog 92 #[.string s, .int .i64 10, .int .i64 64] w fun e w' => ∃ N, e = .returned (.tuple #[.int .i64 (0), .iface 139 (.pointer (some ⟨N, 0, none⟩))]) ∧ w.heap.size ≤ N ∧ w'.heap[N]? = some (.cells #[.string ⟨#[80, 97, 114, 115, 101, 73, 110, 116]⟩, .string s, ev] 159 (0, 0)) ∧ Below w.heap.size w w' := Any.strconv_ParseInt_10_at64_syntax Tryd.laysC174 s hlim h ev w hv hev
open Go.RowKit in
theorem Tryd.strconv_ParseInt_10_at64_range (s : ByteArray) (hlim : s.size ≤ 281474976710656) (h : Lib.parseIntB 64 s.data.toList = .range) (ev : Value) (w : World) (hv : w.cell? ⟨2, 0, none⟩ = some ev) (hev : ev = .nilIface ∨ ∃ te pe, ev = .iface te pe) :
    Calls Tryd.prog 92 #[.string s, .int .i64 10, .int .i64 64] w fun e w' => ∃ N, e = .returned (.tuple #[.int .i64 (Lib.intSat 64 s.data.toList), .iface 139 (.pointer (some ⟨N, 0, none⟩))]) ∧ w.heap.size ≤ N ∧ w'.heap[N]? = some (.cells #[.string ⟨#[80, 97, 114, 115, 101, 73, 110, 116]⟩, .string s, ev] 159 (0, 0)) ∧ Below w.heap.size w w' := Any.strconv_ParseInt_10_at64_range Tryd.laysC174 s hlim h ev w hv hev
end Go.Proofs

namespace Go.Proofs.YtbijcpnimkcfcaaDoor.M
def RW (s : ByteArray) (x : Int) (ok : Bool) : Prop := (ok = true ∧ s = itoaB x) ∨ (ok = false ∧ ¬ ∃ v : Int, -9223372036854775807 ≤ v ∧ v ≤ 9223372036854775807 ∧ s = itoaB v)
theorem bl_itoa (v : Int) : bl (itoaB v) = Lib.itoa v := by simp [bl, itoaB]
theorem rw_ok {s : ByteArray} {v : Int} (h : Lib.parseIntB 64 (bl s) = .ok v) (hn : itoaB v ≠ s) : ¬ ∃ v : Int, -9223372036854775807 ≤ v ∧ v ≤ 9223372036854775807 ∧ s = itoaB v := by
  rintro ⟨u, h0, h1, rfl⟩
  rw [bl_itoa, parse_itoa h0 h1] at h
  injection h with h
  exact hn (by rw [h])
theorem rw_no {s : ByteArray} (h : ∀ v, Lib.parseIntB 64 (bl s) ≠ .ok v) : ¬ ∃ v : Int, -9223372036854775807 ≤ v ∧ v ≤ 9223372036854775807 ∧ s = itoaB v := by
  rintro ⟨u, h0, h1, rfl⟩
  rw [bl_itoa] at h
  exact h u (parse_itoa h0 h1)
theorem itoa_inj' {x a : Int} (h0 : -9223372036854775807 ≤ a) (h1 : a ≤ 9223372036854775807) (h : Lib.itoa x = Lib.itoa a) : x = a := by
  have hs : ∀ v : Int, (v < 0 → Lib.itoa v = 45 :: Lib.decDigits v.natAbs) ∧ (¬ v < 0 → Lib.itoa v = Lib.decDigits v.toNat) := fun v => ⟨fun h => by unfold Lib.itoa; rw [if_pos h], fun h => by unfold Lib.itoa; rw [if_neg h]⟩
  have hd : ∀ n r, Lib.decDigits n = 45 :: r → False := fun n r e => by
    have := (dd_digit n n (Nat.le_refl _) 45 (by rw [e]; exact List.mem_cons_self)).1
    exact absurd this (by decide)
  have hi : ∀ m n, Lib.decDigits m = Lib.decDigits n → m = n := fun m n e => by
    rw [← fv_dd m m (Nat.le_refl _), ← fv_dd n n (Nat.le_refl _), e]
  by_cases hx : x < 0
  · by_cases ha : a < 0
    · rw [(hs x).1 hx, (hs a).1 ha] at h
      simp only [List.cons.injEq, true_and] at h
      have := hi _ _ h
      omega
    · rw [(hs x).1 hx, (hs a).2 ha] at h
      exact (hd _ _ h.symm).elim
  · by_cases ha : a < 0
    · rw [(hs x).2 hx, (hs a).1 ha] at h
      exact (hd _ _ h).elim
    · rw [(hs x).2 hx, (hs a).2 ha] at h
      have := hi _ _ h
      omega
def cutA (s : ByteArray) : ByteArray := ⟨(Lib.cut (bl s) [47]).1.toArray⟩
def cutB (s : ByteArray) : ByteArray := ⟨(Lib.cut (bl s) [47]).2.1.toArray⟩
theorem bl_mk (l : List UInt8) : bl ⟨l.toArray⟩ = l := by simp [bl]
theorem cut_frac {s : ByteArray} {x y : Int} (h : s = fracT x y) : cutA s = itoaB x ∧ cutB s = itoaB y := by
  have e : bl s = bl (itoaB x) ++ 47 :: bl (itoaB y) := by rw [h, bl_fracT]
  unfold cutA cutB
  rw [e, cut_yes (itoa_slash x)]
  exact ⟨bl_ext (bl_mk _), bl_ext (bl_mk _)⟩
theorem cut_back {s : ByteArray} {x y : Int} (h0 : cutA s = itoaB x) (h1 : cutB s = itoaB y) : s = fracT x y := by
  apply bl_ext
  rw [bl_fracT]
  rcases first_slash (bl s) with h | ⟨a, b, h, e⟩
  · unfold cutB at h1
    rw [cut_no h] at h1
    have h2 := congrArg bl h1
    rw [bl_itoa] at h2
    have h3 : Lib.itoa y = [] := h2.symm.trans rfl
    unfold Lib.itoa at h3
    split at h3
    · cases h3
    · exact absurd h3 (dd_ne _)
  · unfold cutA at h0
    unfold cutB at h1
    rw [e, cut_yes h] at h0 h1
    rw [← h0, ← h1, bl_mk, bl_mk]
    exact e
theorem pf_impl_no {s : ByteArray} {x y : Int} {p q : Bool} (h0 : RW (cutA s) x p) (h1 : RW (cutB s) y q) (h : p = false ∨ q = false ∨ (p = true ∧ q = true ∧ isFr x y = false)) : PF s 0 0 6 := by
  refine .inr ⟨fun ⟨a, b, hf, e⟩ => ?_, rfl, rfl, rfl⟩
  obtain ⟨e0, e1⟩ := cut_frac e
  obtain ⟨g1, g2, g3, g4⟩ := fr_bb hf
  rcases h with rfl | rfl | ⟨rfl, rfl, h⟩
  · rcases h0 with ⟨h, _⟩ | ⟨_, h⟩
    · cases h
    · exact h ⟨a, by omega, by omega, e0⟩
  · rcases h1 with ⟨h, _⟩ | ⟨_, h⟩
    · cases h
    · exact h ⟨b, by omega, by omega, e1⟩
  · rcases h0 with ⟨_, h0⟩ | ⟨h0, _⟩
    · rcases h1 with ⟨_, h1⟩ | ⟨h1, _⟩
      · have ix : Lib.itoa x = Lib.itoa a := by rw [← bl_itoa, ← bl_itoa, ← h0, e0]
        have iy : Lib.itoa y = Lib.itoa b := by rw [← bl_itoa, ← bl_itoa, ← h1, e1]
        have hx : x = a := itoa_inj' (by omega) (by omega) ix
        have hy : y = b := itoa_inj' (by omega) (by omega) iy
        rw [hx, hy, hf] at h
        cases h
      · cases h1
    · cases h0
theorem pf_impl_yes {s : ByteArray} {x y : Int} (h0 : RW (cutA s) x true) (h1 : RW (cutB s) y true) (h : isFr x y = true) : PF s x y 0 := by
  rcases h0 with ⟨_, h0⟩ | ⟨h0, _⟩
  · rcases h1 with ⟨_, h1⟩ | ⟨h1, _⟩
    · exact .inl ⟨h, cut_back h0 h1, rfl⟩
    · cases h1
  · cases h0
theorem cut_sizes (s : ByteArray) : (cutA s).size ≤ s.size ∧ (cutB s).size ≤ s.size := by
  have hA : bl (cutA s) = (Lib.cut (bl s) [47]).1 := bl_mk _
  have hB : bl (cutB s) = (Lib.cut (bl s) [47]).2.1 := bl_mk _
  rw [← bl_len (cutA s), ← bl_len (cutB s), ← bl_len s, hA, hB]
  rcases first_slash (bl s) with h | ⟨a, b, h, e⟩
  · rw [cut_no h]; exact ⟨Nat.le_refl _, Nat.zero_le _⟩
  · rw [e, cut_yes h, List.length_append, List.length_cons]
    exact ⟨by show a.length ≤ _; omega, by show b.length ≤ _; omega⟩
end Go.Proofs.YtbijcpnimkcfcaaDoor.M
namespace Go.Proofs.YtbijcpnimkcfcaaDoor.H
open Go.RowKit Go.Proofs.YtbijcpnimkcfcaaDoorW.PrintWords Go.Proofs.YtbijcpnimkcfcaaDoorW.PrintLast Go.Proofs.YtbijcpnimkcfcaaDoorW.PrintMore Go.Proofs.YtbijcpnimkcfcaaDoor.M
attribute [local go_sem] max2_int min2_int max_two min_two max_three min_three max_four min_four
set_option linter.unusedVariables false
set_option linter.unusedSimpArgs false
set_option maxRecDepth 100000
structure Env (w : World) : Prop where
  tab : Tab w
  max : ∃ m, w.cell? ⟨0, 0, none⟩ = some (.int .i64 m)
  syn : ∃ t p, w.cell? ⟨1, 0, none⟩ = some (.iface t p)
  rng : ∃ t p, w.cell? ⟨2, 0, none⟩ = some (.iface t p)
theorem cell_on {w W : World} {a : Addr} {v : Value} (h : w.cell? a = some v) (hb : Below w.heap.size w W) : W.cell? a = some v := (hb.cell (World.block_lt_of_cell? w a h)).trans h
theorem Env.on {w W : World} (h : Env w) (hb : Below w.heap.size w W) : Env W := by
  obtain ⟨h1, ⟨m, h2⟩, ⟨t, p, h3⟩, ⟨t', p', h4⟩⟩ := h
  exact ⟨tab_on h1 hb, ⟨m, cell_on h2 hb⟩, ⟨t, p, cell_on h3 hb⟩, ⟨t', p', cell_on h4 hb⟩⟩
theorem shelfItoa' (x : Int) (h0 : -9223372036854775808 ≤ x) (h1 : x ≤ 9223372036854775807) (w : World) (hT : Tab w) : Calls Tryd.prog 100 #[.int .i64 x, .int .i64 10] w fun e w' => e = .returned (.string (itoaB x)) ∧ Below w.heap.size w w' := by
  refine (Tryd.strconv_FormatInt_10 x h0 h1 w hT).mono ?_
  rintro e w' ⟨he, k, os, rfl⟩
  exact ⟨he, below_grow w k os⟩
set_option maxHeartbeats 8000000 in
theorem implDecimal' (x : Int) (h0 : -9223372036854775808 ≤ x) (h1 : x ≤ 9223372036854775807) (w : World) (hT : Tab w) : Calls Tryd.prog 81 #[.int .i64 x] w fun e w' => e = .returned (.string (itoaB x)) ∧ Below w.heap.size w w' := by
  have HS := Aside0.mk (Sep.refl w)
  have HI := Aside0.mk (shelfItoa' x h0 h1 w hT)
  go_enter Tryd.func81, Tryd.ntmps81
  go_wp2_with (first | (go_at_call 100; refine (HI.out).mono ?_; rintro e_ w1 ⟨rfl, hb⟩; replace HS := sB HS hb; clear hb))
  go_ret
  exact ⟨ret_str rfl, HS.out.below⟩
theorem shelfOk (s : ByteArray) (hs : s.size ≤ 1048576) (v : Int) (h : Lib.parseIntB 64 (bl s) = .ok v) (w : World) : Calls Tryd.prog 92 #[.string s, .int .i64 10, .int .i64 64] w fun e w' => e = .returned (.tuple #[.int .i64 v, .nilIface]) ∧ Below w.heap.size w w' := by
  refine (Tryd.strconv_ParseInt_10_at64_ok s (by omega) v h w).mono ?_
  rintro e w' ⟨he, rfl | ⟨t, rfl⟩⟩
  · exact ⟨he, Below.refl _ _⟩
  · exact ⟨he, Lib.bytesWorld_below _ _ _⟩
theorem shelfBad (s : ByteArray) (hs : s.size ≤ 1048576) (h : ∀ v, Lib.parseIntB 64 (bl s) ≠ .ok v) (w : World) (hE : Env w) : Calls Tryd.prog 92 #[.string s, .int .i64 10, .int .i64 64] w fun e w' => ∃ (x : Int) (te : TypeId) (pe : Value), e = .returned (.tuple #[.int .i64 x, .iface te pe]) ∧ Below w.heap.size w w' := by
  cases hp : Lib.parseIntB 64 (bl s) with
  | ok v => exact absurd hp (h v)
  | «syntax» =>
    obtain ⟨t, p, hv⟩ := hE.syn
    refine (Tryd.strconv_ParseInt_10_at64_syntax s (by omega) hp _ w hv (.inr ⟨t, p, rfl⟩)).mono ?_
    rintro e w' ⟨N, he, _, _, hb⟩
    exact ⟨_, _, _, he, hb⟩
  | range =>
    obtain ⟨t, p, hv⟩ := hE.rng
    refine (Tryd.strconv_ParseInt_10_at64_range s (by omega) hp _ w hv (.inr ⟨t, p, rfl⟩)).mono ?_
    rintro e w' ⟨N, he, _, _, hb⟩
    exact ⟨_, _, _, he, hb⟩
theorem shelfCut (s : ByteArray) (hs : s.size ≤ 1048576) (w : World) (hE : Env w) : Calls Tryd.prog 51 #[.string s, .string ⟨#[47]⟩] w fun e w' => ∃ f : Bool, e = .returned (.tuple #[.string (cutA s), .string (cutB s), .bool f]) ∧ Below w.heap.size w w' := by
  obtain ⟨m, hm⟩ := hE.max
  refine (Tryd.strings_Cut s ⟨#[47]⟩ m w (by omega) hm).mono ?_
  rintro e w' ⟨he, n, rfl⟩
  exact ⟨_, he, pw_below_drewN (Below.refl _ _) _⟩
def RetRW (w : World) (s : ByteArray) (e : Ending) (w' : World) : Prop := ∃ (x : Int) (ok : Bool), e = .returned (.tuple #[.int .i64 x, .bool ok]) ∧ RW s x ok ∧ Below w.heap.size w w'
theorem retRW_mk {w w' : World} {s : ByteArray} {e : Ending} (x : Int) (ok : Bool) (h1 : e = .returned (.tuple #[.int .i64 x, .bool ok])) (h2 : RW s x ok) (h3 : Below w.heap.size w w') : RetRW w s e w' := ⟨x, ok, h1, h2, h3⟩
set_option maxHeartbeats 8000000 in
theorem implReadWhole (s : ByteArray) (hs : s.size ≤ 1048576) (w : World) (hE : Env w) : Calls Tryd.prog 52 #[.string s] w (RetRW w s) := by
  have HS := Aside0.mk (Sep.refl w)
  have HE := Aside0.mk hE
  clear hE
  by_cases hp : ∃ v, Lib.parseIntB 64 (bl s) = .ok v
  · obtain ⟨v, hp⟩ := hp
    obtain ⟨hv0, hv1⟩ := Lib.parseIntB_bounds hp
    have HI := Aside0.mk (fun X => shelfOk s hs v hp X)
    have hpow : ((2 ^ (64 - 1) : Nat) : Int) = 9223372036854775808 := by decide
    rw [hpow] at hv0 hv1
    have HD := Aside0.mk (fun X => implDecimal' v hv0 (by omega) X)
    have HP := Aside0.mk hp
    clear hv0 hv1 hp hpow
    by_cases he : itoaB v = s
    · have HRW := Aside0.mk (show RW s v true from .inl ⟨rfl, he.symm⟩)
      rw [he] at HD
      clear he
      go_enter Tryd.func52, Tryd.ntmps52
      go_wp2_with (first | (go_at_call 92; refine (HI.out _).mono ?_; rintro e_ w1 ⟨rfl, hb⟩; replace HS := sB HS hb; clear hb) | (go_at_call 81; refine (HD.out _ (tab_on HE.out.tab (HS.out.sel [] (by decide)).below)).mono ?_; rintro e_ w1 ⟨rfl, hb⟩; replace HS := sB HS hb; clear hb))
      go_ret2
      exact retRW_mk v true rfl HRW.out HS.out.below
    · have HRW := Aside0.mk (show RW s v false from .inr ⟨rfl, rw_ok HP.out he⟩)
      obtain ⟨d, hd⟩ : ∃ d, itoaB v = d := ⟨_, rfl⟩
      rw [hd] at HD he
      have he1 : decide (d = s) = false := decide_eq_false he
      have he2 : (d.toList == s.toList) = false := (str_eq d s).trans (decide_eq_false he)
      clear hd he
      go_enter Tryd.func52, Tryd.ntmps52
      go_wp2_with (first | (go_at_call 92; refine (HI.out _).mono ?_; rintro e_ w1 ⟨rfl, hb⟩; replace HS := sB HS hb; clear hb) | (go_at_call 81; refine (HD.out _ (tab_on HE.out.tab (HS.out.sel [] (by decide)).below)).mono ?_; rintro e_ w1 ⟨rfl, hb⟩; replace HS := sB HS hb; clear hb))
      go_ret2
      exact retRW_mk v false rfl HRW.out HS.out.below
  · have hb_ : ∀ v, Lib.parseIntB 64 (bl s) ≠ .ok v := fun v h => hp ⟨v, h⟩
    have HI := Aside0.mk (fun X hX => shelfBad s hs hb_ X hX)
    have HRW := Aside0.mk (fun x => show RW s x false from .inr ⟨rfl, rw_no hb_⟩)
    clear hp hb_
    go_enter Tryd.func52, Tryd.ntmps52
    go_wp2_with (first | (go_at_call 92; refine (HI.out _ (HE.out.on (HS.out.sel [] (by decide)).below)).mono ?_; rintro e_ w1 ⟨x, te, pe, rfl, hb⟩; replace HS := sB HS hb; clear hb))
    go_ret2
    exact retRW_mk x false rfl (HRW.out x) HS.out.below
set_option maxHeartbeats 16000000 in
theorem implParseFraction (s : ByteArray) (hs : s.size ≤ 1048576) (w : World) (hE : Env w) : Calls Tryd.prog 17 #[.string s] w (RetPF w s) := by
  have HS := Aside0.mk (Sep.refl w)
  have HE := Aside0.mk hE
  clear hE
  obtain ⟨hA, hB⟩ := cut_sizes s
  have HI := Aside0.mk (fun X hX => shelfCut s hs X hX)
  obtain ⟨p0, hp0⟩ : ∃ p, cutA s = p := ⟨_, rfl⟩
  obtain ⟨p1, hp1⟩ : ∃ p, cutB s = p := ⟨_, rfl⟩
  have HP0 := Aside0.mk hp0
  have HP1 := Aside0.mk hp1
  rw [hp0, hp1] at HI
  rw [hp0] at hA
  rw [hp1] at hB
  have HW0 := Aside0.mk (fun X hX => implReadWhole p0 (by omega) X hX)
  have HW1 := Aside0.mk (fun X hX => implReadWhole p1 (by omega) X hX)
  clear hp0 hp1 hA hB
  go_enter Tryd.func17, Tryd.ntmps17
  have tk1_ : True := trivial
  go_upto_region 5 with (first | ((with_reducible refine gate_dst (N := 2) rfl ?_); refine bxL 26 #[(.int .i64 0), (.int .i64 0)] HS ?_; clear HS; intro g_z w1 hg_z HS) | (go_at_call 51; refine (HI.out _ (HE.out.on (HS.out.sel [] (by decide)).below)).mono ?_; rintro e_ w1 ⟨fd, rfl, hb⟩; replace HS := sB HS hb; clear hb) | (go_at_call 52; clear tk1_; refine (HW0.out _ (HE.out.on (HS.out.sel [] (by decide)).below)).mono ?_; rintro e_ w1 ⟨x, k0, rfl, h0_, hb⟩; replace HS := sB HS hb; clear hb; have HR0 := Aside0.mk h0_; clear h0_) | (go_at_call 52; refine (HW1.out _ (HE.out.on (HS.out.sel [] (by decide)).below)).mono ?_; rintro e_ w1 ⟨y, k1, rfl, h1_, hb⟩; replace HS := sB HS hb; clear hb; have HR1 := Aside0.mk h1_; clear h1_) | ((with_reducible refine gate_dst (N := 11) rfl ?_); refine bxL 26 #[(.int .i64 0), (.int .i64 0)] HS ?_; clear HS; intro g_q w1 hg_q HS) | ((with_reducible refine gate_store (t := 26) (p := 11) rfl ?_); refine stL HS 0 0 #[(.int .i64 x), (.int .i64 y)] rfl rfl rfl rfl rfl ?_; clear HS; intro w1 HS))
  rw [← HP0.out] at HR0
  rw [← HP1.out] at HR1
  cases k0 with
  | false =>
    go_wp2_with (first | ((with_reducible refine gate_store (t := 26) (p := 2) rfl ?_); refine stL HS 1 0 #[(.int .i64 0), (.int .i64 0)] rfl rfl rfl rfl rfl ?_; clear HS; intro w1 HS))
    refine bodyPost_ret (res_ct rfl _ _ g_z 26 #[(.int .i64 0), (.int .i64 0)] (0, 0) _ rfl (HS.out.at (i := 1) rfl) Tryd.underlying26 rfl (by kernel_rfl)) rfl ?_
    exact retPF_mk 0 0 6 rfl (pf_impl_no HR0.out HR1.out (.inl rfl)) (HS.out.sel [] (by decide)).below
  | true =>
    cases k1 with
    | false =>
      go_wp2_with (first | ((with_reducible refine gate_store (t := 26) (p := 2) rfl ?_); refine stL HS 1 0 #[(.int .i64 0), (.int .i64 0)] rfl rfl rfl rfl rfl ?_; clear HS; intro w1 HS))
      refine bodyPost_ret (res_ct rfl _ _ g_z 26 #[(.int .i64 0), (.int .i64 0)] (0, 0) _ rfl (HS.out.at (i := 1) rfl) Tryd.underlying26 rfl (by kernel_rfl)) rfl ?_
      exact retPF_mk 0 0 6 rfl (pf_impl_no HR0.out HR1.out (.inr (.inl rfl))) (HS.out.sel [] (by decide)).below
    | true =>
      have HFR := Aside0.mk (fun X => implIsFraction x y X)
      cases hf : isFr x y with
      | false =>
        rw [hf] at HFR
        have f1_ := HS.out.c 0 0 (v := (.int .i64 x)) rfl rfl
        have f2_ := HS.out.c 0 1 (v := (.int .i64 y)) rfl rfl
        go_wp2_with (first | (go_at_call 27; refine (HFR.out _).mono ?_; rintro e_ w1 ⟨rfl, hb⟩; replace HS := sB HS hb; clear hb f1_ f2_) | ((with_reducible refine gate_store (t := 26) (p := 2) rfl ?_); refine stL HS 1 0 #[(.int .i64 0), (.int .i64 0)] rfl rfl rfl rfl rfl ?_; clear HS; intro w1 HS))
        refine bodyPost_ret (res_ct rfl _ _ g_z 26 #[(.int .i64 0), (.int .i64 0)] (0, 0) _ rfl (HS.out.at (i := 1) rfl) Tryd.underlying26 rfl (by kernel_rfl)) rfl ?_
        exact retPF_mk 0 0 6 rfl (pf_impl_no HR0.out HR1.out (.inr (.inr ⟨rfl, rfl, hf⟩))) (HS.out.sel [] (by decide)).below
      | true =>
        rw [hf] at HFR
        have f1_ := HS.out.c 0 0 (v := (.int .i64 x)) rfl rfl
        have f2_ := HS.out.c 0 1 (v := (.int .i64 y)) rfl rfl
        go_wp2_with (first | (go_at_call 27; refine (HFR.out _).mono ?_; rintro e_ w1 ⟨rfl, hb⟩; replace HS := sB HS hb; clear hb f1_ f2_; have f1_ := HS.out.c 0 0 (v := (.int .i64 x)) rfl rfl; have f2_ := HS.out.c 0 1 (v := (.int .i64 y)) rfl rfl) | ((with_reducible refine gate_store (t := 26) (p := 2) rfl ?_); refine stL HS 1 0 #[(.int .i64 x), (.int .i64 y)] rfl rfl rfl rfl rfl ?_; clear HS f1_ f2_; intro w1 HS))
        refine bodyPost_ret (res_ct rfl _ _ g_z 26 #[(.int .i64 x), (.int .i64 y)] (0, 0) _ rfl (HS.out.at (i := 1) rfl) Tryd.underlying26 rfl (by kernel_rfl)) rfl ?_
        exact retPF_mk x y 0 rfl (pf_impl_yes HR0.out HR1.out hf) (HS.out.sel [] (by decide)).below
end Go.Proofs.YtbijcpnimkcfcaaDoor.H



namespace Go.Proofs.YtbijcpnimkcfcaaDoor.H
open Go.RowKit Go.Proofs.YtbijcpnimkcfcaaDoorW.PrintWords Go.Proofs.YtbijcpnimkcfcaaDoorW.PrintLast Go.Proofs.YtbijcpnimkcfcaaDoorW.PrintMore Go.Proofs.YtbijcpnimkcfcaaDoor.M
attribute [local go_sem] max2_int min2_int max_two min_two max_three min_three max_four min_four
set_option linter.unusedVariables false
set_option linter.unusedSimpArgs false
set_option maxRecDepth 100000
theorem tab_laid' {w : World} {r : List (String × DataW Unit)} (hL : laidMet Tryd.prog (("math/bits.deBruijn32tab", Rows.laid_math_bits_deBruijn32tab) :: ("math/bits.deBruijn64tab", Rows.laid_math_bits_deBruijn64tab) :: ("internal/strconv.uint64pow10", Rows.laid_internal_strconv_uint64pow10) :: r) w) : Tab w :=
  Lib.tabIs_of_head (g := 3) (t := 162) (e := 112) (n := 20) (by kernel_rfl) (by kernel_rfl) (by kernel_rfl) (by kernel_rfl) (by kernel_rfl) (by kernel_rfl) (show laidMet Tryd.prog (("internal/strconv.uint64pow10", Lib.tabData .u64 Lib.pow10Tab) :: r) w from hL.tail.tail)
theorem star_err : "*" ++ "errors.errorString" = "*errors.errorString" := by decide
theorem row166 (u : TypeId) (h : Tryd.prog.typeName? 3 u = some "*errors.errorString") : u = 166 :=
  typeName_ptr_named (P := Tryd.prog) (nm := "errors.errorString") (by rw [star_err]; kernel_rfl) (by kernel_rfl) (by decide) u (by rw [star_err]; exact h)
theorem err_laid {w : World} {n : String} {text : List UInt8} {r : List (String × DataW Unit)} {g : Nat} (h : laidMet Tryd.prog ((n, .iface "*errors.errorString" (.ptr (.agg [.lit (.string text)]))) :: r) w) (hg : Tryd.prog.globalNamed n = some g) (ht : (Tryd.prog.globals[g]?).map (·.type) = some 106) : ∃ t p, w.cell? ⟨g, 0, none⟩ = some (.iface t p) := by
  obtain ⟨a, s, hv, _⟩ := laid_sentinel h hg ht Tryd.underlying106 row166 Tryd.underlying166 Tryd.underlying168 rfl rfl Tryd.underlying9 (by kernel_rfl) (by kernel_rfl)
  exact ⟨_, _, (World.var?_cell hg hv 0).trans rfl⟩
theorem env_laid {w : World} {r : List (String × DataW Unit)} (hsh : w.ShapedOpen Tryd.prog) (hL : laidMet Tryd.prog (("math/bits.deBruijn32tab", Rows.laid_math_bits_deBruijn32tab) :: ("math/bits.deBruijn64tab", Rows.laid_math_bits_deBruijn64tab) :: ("internal/strconv.uint64pow10", Rows.laid_internal_strconv_uint64pow10) :: ("strconv.ErrRange", Rows.laid_strconv_ErrRange) :: ("strconv.ErrSyntax", Rows.laid_strconv_ErrSyntax) :: r) w) : Env w :=
  ⟨tab_laid' hL, cell_of_shapedOpen_int (t := 3) (zero := #[.int .i64 0]) hsh (of_decide_eq_true (by kernel_rfl)) (by kernel_rfl) rfl (by kernel_rfl) (by kernel_rfl) (by kernel_rfl), err_laid (g := 1) hL.tail.tail.tail.tail (by kernel_rfl) (by kernel_rfl), err_laid (g := 2) hL.tail.tail.tail (by kernel_rfl) (by kernel_rfl)⟩
set_option maxHeartbeats 8000000 in
theorem lawEqFr (a b : Int) (w : World) : Calls Tryd.prog 18 #[.agg #[.int .i64 a, .int .i64 b], .agg #[.int .i64 a, .int .i64 b]] w fun e w' => e = .returned (.bool true) ∧ Below w.heap.size w w' := by
  have HS := Aside0.mk (Sep.refl w)
  go_enter Tryd.func18, Tryd.ntmps18
  go_wp2_with (first | ((with_reducible refine gate_dst (N := 2) rfl ?_); refine bxL 26 #[.int .i64 a, .int .i64 b] HS ?_; clear HS; intro g_p w1 hg_p HS) | ((with_reducible refine gate_dst (N := 3) rfl ?_); refine bxL 26 #[.int .i64 a, .int .i64 b] HS ?_; clear HS; intro g_q w1 hg_q HS; have f1_ := HS.out.c 1 0 (v := .int .i64 a) rfl rfl; have f2_ := HS.out.c 0 0 (v := .int .i64 a) rfl rfl; have f3_ := HS.out.c 1 1 (v := .int .i64 b) rfl rfl; have f4_ := HS.out.c 0 1 (v := .int .i64 b) rfl rfl))
  go_ret
  exact ⟨rfl, (HS.out.sel [] (by decide)).below⟩
set_option maxHeartbeats 16000000 in
theorem lawPfE (s : ByteArray) (w : World) (hE : Env w) (hs0 : s.size ≤ 9223372036854775807) : Calls Tryd.prog 5 #[.string s] w fun e w' => e = .returned (.bool true) ∧ Below w.heap.size w w' := by
  have HS := Aside0.mk (Sep.refl w)
  have HE := Aside0.mk hE
  clear hE
  by_cases hs : s.size ≤ 1048576
  · have hsi : ¬ (1048576 < (s.size : Int)) := by omega
    have H1 := Aside0.mk (fun X => specParseFraction s X hs)
    have H2 := Aside0.mk (fun X hX => implParseFraction s hs X hX)
    have HU := Aside0.mk (fun x y q x' y' q' (h : PF s x y q) (h' : PF s x' y' q') => PF_one (fun h => fr_b h) h h')
    go_enter Tryd.func5, Tryd.ntmps5
    go_upto_region 5 with (first | (go_at_call 16; refine (H1.out _).mono ?_; rintro e_ w1 ⟨x, y, q, rfl, hp, hb⟩; replace HS := sB HS hb; clear hb; have HP := Aside0.mk hp; clear hp) | ((with_reducible refine gate_dst (N := 3) rfl ?_); refine bxL 26 #[(.int .i64 0), (.int .i64 0)] HS ?_; clear HS; intro g_b1 w1 hg_b1 HS) | ((with_reducible refine gate_store (t := 26) (p := 3) rfl ?_); refine stL HS 0 0 #[.int .i64 x, .int .i64 y] rfl rfl rfl rfl rfl ?_; clear HS; intro w1 HS) | (go_at_call 17; refine (H2.out _ (HE.out.on (HS.out.sel [] (by decide)).below)).mono ?_; rintro e_ w1 ⟨x', y', q', rfl, hp, hb⟩; replace HS := sB HS hb; clear hb; have HP' := Aside0.mk hp; clear hp) | ((with_reducible refine gate_dst (N := 5) rfl ?_); refine bxL 26 #[(.int .i64 0), (.int .i64 0)] HS ?_; clear HS; intro g_b2 w1 hg_b2 HS) | ((with_reducible refine gate_store (t := 26) (p := 5) rfl ?_); refine stL HS 0 0 #[.int .i64 x', .int .i64 y'] rfl rfl rfl rfl rfl ?_; clear HS; intro w1 HS))
    obtain ⟨rfl, rfl, rfl⟩ := HU.out _ _ _ _ _ _ HP.out HP'.out
    have f1_ := HS.out.c 0 0 (v := (.int .i64 x)) rfl rfl
    have f2_ := HS.out.c 0 1 (v := (.int .i64 y)) rfl rfl
    have f3_ := HS.out.c 1 0 (v := .int .i64 x) rfl rfl
    have f4_ := HS.out.c 1 1 (v := .int .i64 y) rfl rfl
    go_wp2_with (first | (go_at_call 18; refine (lawEqFr x y _).mono ?_; rintro e_ w1 ⟨rfl, hb⟩; replace HS := sB HS hb; clear hb f1_ f2_ f3_ f4_))
    go_ret
    exact ⟨rfl, (HS.out.sel [] (by decide)).below⟩
  · have hsi : (1048576 < (s.size : Int)) := by omega
    go_enter Tryd.func5, Tryd.ntmps5
    go_wp2
    go_ret
    exact ⟨rfl, HS.out.below⟩
theorem lawPf (s : ByteArray) (w : World) (hL : laidMet Tryd.prog Rows.fnExactParseFractionRow.laid w) (hsh : w.ShapedOpen Tryd.prog) (hs0 : s.size ≤ 9223372036854775807) : Calls Tryd.prog 5 #[.string s] w fun e w' => e = .returned (.bool true) ∧ Below w.heap.size w w' := lawPfE s w (env_laid hsh hL) hs0
theorem returnsInHanded_both {H : Type} {enc : TypeId × Value → H} {a : Assume} {C : Checked} {os : Os} {f : FuncId} {fn : Func} {s : ChangeSpec} {conds : List PathCond} {apart fresh handsOn again : Bool} {X : World → Array Value → Prop}
    (hX : ∀ (w w' : World) (args : Array Value), w.heap = w'.heap → X w args → X w' args)
    (own : ownKnob C.prog.godebug = none) (started : os.Started) (noInit : C.prog.inits.idxOf? f = none) (hfn : C.prog.funcs[f]? = some fn)
    (witness : ∃ (w : World) (tape : Tape) (i : Input), w.os = os ∧ (w.forCall tape i).Shaped C.prog ∧ i.vars = [] ∧ Input.okWide C.prog (w.forCall tape i) .any w.heap.size f i ∧
      ((s.pre enc C.prog fn conds apart (w.forCall tape i).memory i.args ∧ X (w.forCall tape i).memory i.args) ∧ sizedMet enc C.prog fn (OpenSpec.ofChange s) apart (w.forCall tape i).memory i.args) ∧ a.holds C.prog (lone (Frame.enter C.prog f i.args .normal) [] (w.forCall tape i)))
    (contract : ∀ (W : World) (base : Nat) (args : Array Value) (ds gs : List (DataW H)) (before : List MemPlace),
      (∀ (j : Nat) t v, fn.params[j]? = some t → args[j]? = some v → Value.okWide C.prog W .any base t v) →
      DataW.Whole enc C.prog fn.params.toList s.vars apart W args.toList ds gs before →
      conds.all (PathCond.test C.prog ⟨fn.params.toList, ds, s.plain.varTypes C.prog, gs⟩) = true →
      (DataW.weightsEach C.prog (fn.params.toList ++ s.plain.varTypes C.prog) (ds ++ gs)).all (· ≤ reachBytes) = true → X W args → W.ShapedOpen C.prog →
      a.holds C.prog (lone (Frame.enter C.prog f args .normal) [] W) →
      Calls C.prog f args W fun e W' => ∃ v, e = .returned v ∧ s.post enc C.prog fn apart fresh handsOn again W args v W') :
    ReturnsInHanded a C os f .any (fun w args => (s.pre enc C.prog fn conds apart w args ∧ X w args) ∧ sizedMet enc C.prog fn (OpenSpec.ofChange s) apart w args) (s.post enc C.prog fn apart fresh handsOn again) := by
  refine returnsInHanded_of_calls own started noInit witness ?_
  intro w tape i _ hsh _ hok hpre hholds
  obtain ⟨_, _, _, fn', hfn', _, _, _, _, hval⟩ := hok
  have e : fn' = fn := Option.some.inj (hfn'.symm.trans hfn)
  subst e
  obtain ⟨⟨⟨ds, gs, before, hw, hc⟩, hx⟩, hz⟩ := hpre
  have hw' := DataW.Whole.of_heap (w' := w.forCall tape i) (by rfl) hw
  refine (contract (w.forCall tape i) w.heap.size i.args ds gs before hval hw' hc (hz.weights hw) (hX _ _ _ (by rfl) hx) hsh hholds).mono fun e W' ⟨v, he, hp⟩ => ?_
  subst he
  exact ChangeSpec.post_blind hp
end Go.Proofs.YtbijcpnimkcfcaaDoor.H



