/- Rows of terms and tables: what sums and multiples make of them. Conditions: those of series. -/
import Derived.Test.YtcklblagklojhaaKTable6
namespace Go.Proofs.Ytcklblagklojhaa.M
set_option linter.unusedVariables false
/-- Row and table go together. -/
def Rel (d n : Nat) (o : Option Ts) (F : Tb) : Prop := (o = none ∧ F.2 = true) ∨ ∃ l, o = some l ∧ F.2 = false ∧ isTs d n l = true ∧ ∀ w, isWd d w = true → w.size ≤ n → co l w = F.1 w
def resO (d n : Int) : Option Ts → Rs
  | none => noS 3
  | some l => (d, n, l, 0)
theorem Rel.told {d n : Nat} (hd : d ≤ 9) {o : Option Ts} {F : Tb} (hF : good F.1) (h : Rel d n o F) : toldR d n F = resO d n o := by
  unfold toldR
  rcases h with ⟨rfl, h⟩ | ⟨l, rfl, h1, h2, h3⟩
  · rw [if_pos h]; rfl
  · rw [if_neg (by rw [h1]; decide), ← eq_tabT hd h2 hF h3]; rfl
theorem resO_len {d n : Int} {d' n' : Nat} {o : Option Ts} {F : Tb} (hd : d' ≤ 3) (hn : n' ≤ 5) (h : Rel d' n' o F) : (resO d n o).2.2.1.length ≤ 1048576 := by
  rcases h with ⟨rfl, h⟩ | ⟨l, rfl, h1, h2, h3⟩
  · show (0 : Nat) ≤ _; decide
  · have := ts_length_le (by omega) h2
    have := ahead_le hd (k := n' + 1) (by omega)
    show l.length ≤ _
    omega
theorem foldM_next {α β : Type} (g : β → α → Option β) (l : List α) (b : β) {i : Nat} (h : i < l.length) : (l.take (i + 1)).foldlM g b = ((l.take i).foldlM g b).bind fun y => g y l[i] := by
  rw [List.take_add_one, List.getElem?_eq_getElem h, List.foldlM_append]
  show (List.foldlM g b (List.take i l) >>= fun s' => List.foldlM g s' [l[i]]) = _
  cases List.foldlM g b (List.take i l) with
  | none => rfl
  | some y =>
    show List.foldlM g y [l[i]] = g y l[i]
    rw [List.foldlM_cons]
    cases g y l[i] <;> rfl
theorem foldM_none {α β : Type} (g : β → α → Option β) (l : List α) (b : β) (i : Nat) (h : (l.take i).foldlM g b = none) : l.foldlM g b = none := by
  conv => lhs; rw [← List.take_append_drop i l]
  rw [List.foldlM_append, h]
  rfl
theorem maps_all (h : ByteArray → Option Fr) : ∀ (l : List ByteArray) (F : Tb), ((∀ w, w ∈ l → (l.foldl (mapS h) F).1 w = orZ (h w)) ∧ (∀ w, ¬ w ∈ l → (l.foldl (mapS h) F).1 w = F.1 w)) ∧ (l.foldl (mapS h) F).2 = (F.2 || l.any fun s => (h s).isNone)
  | [], F => ⟨⟨fun w hw => (by cases hw), fun w _ => rfl⟩, by simp⟩
  | s :: l, F => by
    obtain ⟨⟨h1, h3⟩, h2⟩ := maps_all h l (mapS h F s)
    have hm : ∀ w, w = s → (mapS h F s).1 w = orZ (h w) := fun w e => by unfold mapS upd; rw [e]; simp
    have hk : ∀ w, w ≠ s → (mapS h F s).1 w = F.1 w := fun w e => by unfold mapS upd; simp [e]
    refine ⟨⟨fun w hw => ?_, fun w hw => ?_⟩, ?_⟩
    · rw [List.foldl_cons]
      by_cases hl : w ∈ l
      · exact h1 w hl
      · rw [h3 w hl]
        rcases List.mem_cons.1 hw with e | e
        · exact hm w e
        · exact absurd e hl
    · rw [List.foldl_cons, h3 w (fun e => hw (List.mem_cons_of_mem _ e)), hk w (fun e => hw (e ▸ List.mem_cons_self))]
    · rw [List.foldl_cons, h2, List.any_cons]; unfold mapS; rw [Bool.or_assoc]
theorem mapT_all {d n : Nat} (hd : d ≤ 9) (h : ByteArray → Option Fr) (bad : Bool) : (∀ w, isWd d w = true → w.size ≤ n → (mapT d n h bad (allW d n).length).1 w = orZ (h w)) ∧ (mapT d n h bad (allW d n).length).2 = (bad || (allW d n).any fun s => (h s).isNone) := by
  obtain ⟨⟨h1, _⟩, h2⟩ := maps_all h (allW d n) ((fun _ => (0, 1)), bad)
  unfold mapT
  rw [List.take_length]
  exact ⟨fun w hw hn => h1 w ((allW_mem hd).2 ⟨hw, hn⟩), h2⟩
theorem mapT_good {d n : Nat} {h : ByteArray → Option Fr} (hh : ∀ s c, h s = some c → fr c = true) (bad : Bool) (k : Nat) : good (mapT d n h bad k).1 := fun w => by
  obtain ⟨⟨h1, h3⟩, _⟩ := maps_all h ((allW d n).take k) ((fun _ => (0, 1)), bad)
  unfold mapT
  by_cases hw : w ∈ (allW d n).take k
  · rw [h1 w hw]; exact orZ_fr (hh w)
  · rw [h3 w hw]; exact fr_zero
/-- A row of which each word's coefficient is the table's. -/
theorem rel_map {d n : Nat} (hd : d ≤ 9) {h : ByteArray → Option Fr} {l : Ts} (hl : isTs d n l = true) (hb : ∀ s, isWd d s = true → s.size ≤ n → h s = some (co l s)) : Rel d n (some l) (mapT d n h false (allW d n).length) := by
  obtain ⟨h1, h2⟩ := mapT_all (n := n) hd h false
  refine .inr ⟨l, rfl, ?_, hl, fun w hw hn => ?_⟩
  · rw [h2, Bool.false_or, List.any_eq_false]
    intro s hs
    obtain ⟨g1, g2⟩ := (allW_mem hd).1 hs
    rw [hb s g1 g2]; simp
  · rw [h1 w hw hn, hb w hw hn]; rfl
theorem rel_none {d n : Nat} (hd : d ≤ 9) {h : ByteArray → Option Fr} {s : ByteArray} (hs : isWd d s = true) (hn : s.size ≤ n) (hb : h s = none) (b : Bool) : Rel d n none (mapT d n h b (allW d n).length) := by
  obtain ⟨h1, h2⟩ := mapT_all (n := n) hd h b
  refine .inl ⟨rfl, ?_⟩
  rw [h2, Bool.or_eq_true, List.any_eq_true]
  exact .inr ⟨s, (allW_mem hd).2 ⟨hs, hn⟩, by rw [hb]; rfl⟩
/-- Sums: term by term into a row, and table by table. -/
theorem sum_rel {d n : Nat} (hd : d ≤ 9) : ∀ {y x : Ts}, isTs d n x = true → isTs d n y = true → Rel d n (y.foldlM (fun l t => put l t.1 t.2) x) (mapT d n (fun s => add (co x s) (co y s)) false (allW d n).length)
  | [], x, hx, _ => rel_map hd hx fun s _ _ => by rw [co_nil]; exact add_zero_right (co_fr hx s)
  | t :: r, x, hx, hy => by
    obtain ⟨hy1, hy2⟩ := isTs_iff.1 hy
    have hr : isTs d n r = true := isTs_iff.2 ⟨fun u hu => hy1 u (List.mem_cons_of_mem _ hu), (List.pairwise_cons.1 hy2).2⟩
    obtain ⟨z1, z2, z3, z4⟩ := isTm_fr (hy1 t List.mem_cons_self)
    have hrt : co r t.1 = (0, 1) := co_none fun u hu e => bef_ne ((List.pairwise_cons.1 hy2).1 u hu) e.symm
    rw [List.foldlM_cons]
    rcases put_co hx z3 z4 z1 with ⟨e1, e2⟩ | ⟨l', s, e1, e2, e3, e4, _⟩
    · rw [e1]
      exact rel_none hd (h := fun s => add (co x s) (co (t :: r) s)) z3 z4 (by rw [co_cons, if_pos rfl]; exact e2) false
    · rw [e1]
      have ih := sum_rel hd e3 hr
      have hs : fr s = true := add_fr e2
      have : (fun s => add (co l' s) (co r s)) = fun s => add (co x s) (co (t :: r) s) := by
        funext u
        rw [e4, co_cons]
        unfold upd
        by_cases e : u = t.1
        · subst e; rw [if_pos rfl, if_pos rfl, hrt, add_zero_right hs, e2]
        · rw [if_neg e, if_neg (fun h => e h.symm)]
      rw [this] at ih
      exact ih
/-! multiples -/
theorem frac_zero_num {b : Int} (h : 0 < b) : frac 0 b = some (0, 1) := by
  have e : sgd 0 b = b := by
    unfold sgd
    rw [if_neg (by omega), Int.gcd_zero_left]
    omega
  have h1 : rnum 0 b = 0 := by unfold rnum; rw [Int.zero_tdiv]
  have h2 : rden 0 b = 1 := by unfold rden; rw [e, Int.tdiv_self (by omega)]
  have h3 : okN 0 b = true := by unfold okN; rw [h1, h2]; decide
  rw [frac_ok (by omega) h3, h1, h2]
theorem mul_zero_left {a : Fr} (h : fr a = true) : mul (0, 1) a = some (0, 1) := by
  unfold mul
  rw [Int.zero_mul, Int.one_mul]
  exact frac_zero_num (by have := fr_den h; omega)
theorem mul_zero_right {a : Fr} (h : fr a = true) : mul a (0, 1) = some (0, 1) := by
  unfold mul
  rw [Int.mul_zero, Int.mul_one]
  exact frac_zero_num (by have := fr_den h; omega)
theorem rnum_ne {a b : Int} (ha : a ≠ 0) (hb : b ≠ 0) : rnum a b ≠ 0 := by
  have hg : sgd a b ∣ a := by
    unfold sgd
    split
    · exact (Int.neg_dvd).2 (Int.gcd_dvd_left ..)
    · exact Int.gcd_dvd_left ..
  obtain ⟨k, hk⟩ := hg
  have hs := sgd_ne (a := a) hb
  unfold rnum
  intro h0
  generalize sgd a b = q at hk hs h0
  have h1 : Int.tdiv a q = k := by rw [hk]; exact Int.mul_tdiv_cancel_left _ hs
  rw [h1] at h0
  rw [h0, Int.mul_zero] at hk
  exact ha hk
theorem mul_ne {a b c : Fr} (h : mul a b = some c) (ha : a.1 ≠ 0) (hb : b.1 ≠ 0) : c.1 ≠ 0 := by
  unfold mul frac at h
  split at h
  · rename_i hc
    injection h with h
    rw [← h]
    exact rnum_ne (Int.mul_ne_zero ha hb) hc.1
  · cases h
def scF (a : Fr) (y : Ts) (t : Tm) : Option Ts := (mul t.2 a).map fun c => y ++ [(t.1, c)]
/-- A multiple. -/
def scS (l : Ts) (a : Fr) : Option Ts := if a.1 = 0 then some [] else l.foldlM (scF a) []
theorem co_map (g : Fr → Fr) (h0 : g (0, 1) = (0, 1)) (l : Ts) (w : ByteArray) : co (l.map fun t => (t.1, g t.2)) w = g (co l w) := by
  induction l with
  | nil => exact h0.symm
  | cons t r ih =>
    rw [List.map_cons, co_cons, co_cons, ih]
    split <;> rfl
theorem scF_all (a : Fr) : ∀ (l y : Ts), (l.foldlM (scF a) y = none ∧ ∃ t ∈ l, mul t.2 a = none) ∨ (l.foldlM (scF a) y = some (y ++ l.map fun t => (t.1, orZ (mul t.2 a))) ∧ ∀ t ∈ l, mul t.2 a ≠ none)
  | [], y => .inr ⟨by simp, fun _ h => by cases h⟩
  | t :: r, y => by
    rw [List.foldlM_cons]
    unfold scF
    cases hm : mul t.2 a with
    | none => exact .inl ⟨rfl, t, List.mem_cons_self, hm⟩
    | some c =>
      have ih := scF_all a r (y ++ [(t.1, c)])
      rcases ih with ⟨e, u, hu, hn⟩ | ⟨e, hn⟩
      · exact .inl ⟨e, u, List.mem_cons_of_mem _ hu, hn⟩
      · refine .inr ⟨?_, fun u hu => ?_⟩
        · show List.foldlM (scF a) (y ++ [(t.1, c)]) r = _
          rw [e, List.map_cons, hm]
          simp [orZ]
        · rcases List.mem_cons.1 hu with rfl | hu
          · rw [hm]; simp
          · exact hn u hu
theorem map_ts {d n : Nat} {l : Ts} (hl : isTs d n l = true) {g : Fr → Fr} (hg : ∀ t ∈ l, fr (g t.2) = true ∧ (g t.2).1 ≠ 0) : isTs d n (l.map fun t => (t.1, g t.2)) = true := by
  obtain ⟨h1, h2⟩ := isTs_iff.1 hl
  refine isTs_iff.2 ⟨fun t ht => ?_, ?_⟩
  · obtain ⟨u, hu, rfl⟩ := List.mem_map.1 ht
    obtain ⟨_, _, z3, z4⟩ := isTm_fr (h1 u hu)
    exact isTm_mk z3 z4 (hg u hu).1 (hg u hu).2
  · unfold Srt
    rw [List.pairwise_map]
    exact h2
theorem scale_rel {d n : Nat} (hd : d ≤ 9) {l : Ts} {a : Fr} (hl : isTs d n l = true) (ha : fr a = true) : Rel d n (scS l a) (mapT d n (fun s => mul (co l s) a) false (allW d n).length) := by
  obtain ⟨h1, h2⟩ := isTs_iff.1 hl
  unfold scS
  by_cases h0 : a.1 = 0
  · rw [if_pos h0]
    obtain rfl := fr_num0 ha h0
    refine rel_map hd (isTs_iff.2 ⟨fun _ h => (by cases h), List.Pairwise.nil⟩) fun s _ _ => ?_
    rw [co_nil]; exact mul_zero_right (co_fr hl s)
  · rw [if_neg h0]
    rcases scF_all a l [] with ⟨e, t, ht, hn⟩ | ⟨e, hn⟩
    · rw [e]
      obtain ⟨_, _, z3, z4⟩ := isTm_fr (h1 t ht)
      exact rel_none hd (h := fun s => mul (co l s) a) z3 z4 (by rw [co_mem h2 ht]; exact hn) false
    · rw [e, List.nil_append]
      have hg0 : orZ (mul (0, 1) a) = (0, 1) := by rw [mul_zero_left ha]; rfl
      refine rel_map hd (map_ts hl (g := fun b => orZ (mul b a)) fun t ht => ?_) fun s _ _ => ?_
      · obtain ⟨z1, z2, _, _⟩ := isTm_fr (h1 t ht)
        cases hm : mul t.2 a with
        | none => exact absurd hm (hn t ht)
        | some c => exact ⟨mul_fr hm, mul_ne hm z2 h0⟩
      · rw [co_map (fun b => orZ (mul b a)) hg0]
        rcases co_zero_or (l := l) s with e0 | ⟨t, ht, e0, e1⟩
        · rw [e0, mul_zero_left ha]; rfl
        · rw [e1]
          cases hm : mul t.2 a with
          | none => exact absurd hm (hn t ht)
          | some c => rfl
end Go.Proofs.Ytcklblagklojhaa.M
