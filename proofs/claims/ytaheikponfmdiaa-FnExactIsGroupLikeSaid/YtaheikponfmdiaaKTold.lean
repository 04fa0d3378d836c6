/- Sums of fractions that are told: their steps and their bounds. Conditions: none. -/
import Derived.Test.YtaheikponfmdiaaKShufP
import Derived.Test.YtaheikponfmdiaaKCode
import Derived.Test.YtaheikponfmdiaaKBasic
import Derived.Test.YtaheikponfmdiaaKTab
import Derived.Test.YtaheikponfmdiaaKTable
namespace Go.Proofs.Ytaheikponfmdiaa.M
theorem acc_snoc (U : List (Option Fr)) (p : Option Fr) : accS (U ++ [p]) = (accS U).bind fun s => p.bind (add s) := by
  unfold accS
  rw [List.foldlM_append]
  show ((List.foldlM (fun s p => p.bind (add s)) (0, 1) U) >>= fun s => List.foldlM (fun s p => p.bind (add s)) s [p]) = _
  cases List.foldlM (fun s p => p.bind (add s)) ((0, 1) : Fr) U with
  | none => rfl
  | some s =>
    show List.foldlM (fun s p => p.bind (add s)) s [p] = p.bind (add s)
    rw [List.foldlM_cons]
    cases p.bind (add s) <;> rfl
theorem acc_bad {U V : List (Option Fr)} (h : accS U = none) : accS (U ++ V) = none := by
  unfold accS at *
  rw [List.foldlM_append, h]
  rfl
theorem acc_fr {U : List (Option Fr)} : ∀ {c : Fr}, accS U = some c → fr c = true := by
  have gen : ∀ (U : List (Option Fr)) (s c : Fr), fr s = true → U.foldlM (fun s p => p.bind (add s)) s = some c → fr c = true := by
    intro U
    induction U with
    | nil => intro s c hs h; have : s = c := by simpa using h
             rw [← this]; exact hs
    | cons p U ih =>
      intro s c hs h
      rw [List.foldlM_cons] at h
      cases p with
      | none => cases h
      | some a =>
        cases ha : add s a with
        | none => simp only [Option.bind_some, ha] at h; cases h
        | some b =>
          simp only [Option.bind_some, ha] at h
          exact ih b c (add_fr ha) h
  intro c h
  exact gen U (0, 1) c fr_zero h
theorem pairU_next {x y : Ts} {i : Nat} {t : Tm} (h : x[i]? = some t) : pairU (x.take (i + 1)) y = pairU (x.take i) y ++ (if (co y t.1).1 = 0 then [] else [mul t.2 (co y t.1)]) := by
  unfold pairU
  rw [List.take_add_one, h, List.filterMap_append]
  congr 1
  show List.filterMap _ [t] = _
  by_cases h0 : (co y t.1).1 = 0 <;> simp [h0]
theorem pairU_split (x y : Ts) (i : Nat) : ∃ V, pairU x y = pairU (x.take i) y ++ V := by
  refine ⟨pairU (x.drop i) y, ?_⟩
  unfold pairU
  rw [← List.filterMap_append, List.take_append_drop]
def resF : Option Fr → Rf
  | none => (0, 0, 3)
  | some c => (c.1, c.2, 0)
def pairR (d n : Int) (l : Ts) (d2 n2 : Int) (l2 : Ts) : Rf := if codeR d n l d2 n2 l2 = 0 then resF (pairS l l2) else (0, 0, codeR d n l d2 n2 l2)
theorem pair_end (x y : Ts) : (pairS x y = none ∧ (addsT ((fun _ => (0, 1)), false) ((pairU x y).map fun p => (eps, p))).2 = true) ∨ ∃ c, pairS x y = some c ∧ (addsT ((fun _ => (0, 1)), false) ((pairU x y).map fun p => (eps, p))).2 = false ∧ (addsT ((fun _ => (0, 1)), false) ((pairU x y).map fun p => (eps, p))).1 eps = c :=
  acc_adds eps (pairU x y) (fun _ => (0, 1)) (0, 1) rfl
end Go.Proofs.Ytaheikponfmdiaa.M
namespace Go.Proofs.Ytaheikponfmdiaa.M
set_option linter.unusedVariables false
theorem mul_comm' (a b : Fr) : mul a b = mul b a := by unfold mul; rw [Int.mul_comm a.1, Int.mul_comm a.2]
theorem mul_one1 {a : Fr} (h : fr a = true) : mul a (1, 1) = some a := by
  unfold mul
  rw [Int.mul_one, Int.mul_one]
  exact frac_self h
theorem fr_nat {m : Nat} (h : m ≤ 1000000000) : fr ((m : Nat), 1) = true := by
  refine (isFr_iff _ _).2 ⟨by omega, by omega, by omega, by omega, ?_⟩
  simp
/-- One term of a shuffle of two words. -/
def shTm (v w u : ByteArray) : Tm := (u, ((sh (bl v) (bl w) (bl u) : Nat) : Int), 1)
/-- The terms of a shuffle of two words. -/
def shWT (d n : Nat) (v w : ByteArray) : Ts := if n < v.size + w.size then [] else (shW d v w).map (shTm v w)
theorem stepW_tail (v w : ByteArray) : ∀ (ws : List ByteArray) (z : Ts), (∀ u ∈ ws, 0 < sh (bl v) (bl w) (bl u) ∧ u.size ≤ 16) → (ws.Pairwise fun a b => bef a b = true) → (∀ t ∈ z, ∀ u ∈ ws, bef t.1 u = true) →
    ws.foldlM (stepW false v w (1, 1)) z = some (z ++ ws.map (shTm v w))
  | [], z, _, _, _ => by simp
  | u :: ws, z, h1, h2, h3 => by
    obtain ⟨g1, g2⟩ := h1 u List.mem_cons_self
    have hm := shN_le' (v := bl v) (w := bl w) (u := bl u) (by rw [bl_len]; exact g2)
    have hf := fr_nat (m := sh (bl v) (bl w) (bl u)) (by omega)
    have e : stepW false v w (1, 1) z u = some (z ++ [shTm v w u]) := by
      have hn : numS false v w u = sh (bl v) (bl w) (bl u) := rfl
      rw [stepW_pos (by rw [hn]; omega), hn, mul_comm', mul_one1 hf]
      show put z u _ = _
      have hp := put_tl (s := u) (a := (0, 1)) (z := z) (by rfl) hf fun t ht => h3 t ht u List.mem_cons_self
      rw [tl_zero, List.append_nil, add_zero_left hf] at hp
      rw [hp]
      show some (z ++ tl u _) = _
      unfold tl shTm
      rw [if_neg (by show ¬ ((sh (bl v) (bl w) (bl u) : Nat) : Int) = 0; omega)]
    rw [List.foldlM_cons, e]
    obtain ⟨p1, p2⟩ := List.pairwise_cons.1 h2
    refine (stepW_tail v w ws _ (fun x hx => h1 x (List.mem_cons_of_mem _ hx)) p2 ?_).trans ?_
    · intro t ht x hx
      rcases List.mem_append.1 ht with ht | ht
      · exact h3 t ht x (List.mem_cons_of_mem _ hx)
      · rw [List.mem_singleton.1 ht]; exact p1 x hx
    · rw [List.map_cons, List.append_assoc]; rfl
theorem sh_two {d n : Nat} (hd : d ≤ 9) (hn : n ≤ 16) (v w : ByteArray) : shS d n false [(v, (1, 1))] [(w, (1, 1))] = some (shWT d n v w) := by
  unfold shS
  rw [List.foldlM_cons]
  show (stepA d n false [(w, (1, 1))] [] (v, (1, 1)) >>= fun z => List.foldlM _ z []) = _
  have e : stepA d n false [(w, (1, 1))] [] (v, (1, 1)) = some (shWT d n v w) := by
    unfold stepA
    rw [if_neg (by simp), List.foldlM_cons]
    show (stepB d n false (v, (1, 1)) [] (w, (1, 1)) >>= fun z => List.foldlM _ z []) = _
    have e2 : stepB d n false (v, (1, 1)) [] (w, (1, 1)) = some (shWT d n v w) := by
      unfold stepB shWT
      rw [show mul ((v, ((1 : Int), (1 : Int))) : Tm).2 ((w, ((1 : Int), (1 : Int))) : Tm).2 = some (1, 1) from mul_one1 (a := (1, 1)) (by decide)]
      show (if n < v.size + w.size then some [] else _) = _
      by_cases hl : n < v.size + w.size
      · rw [if_pos hl, if_pos hl]
      · rw [if_neg hl, if_neg hl, ← shW_fold, stepW_tail v w (shW d v w) []]
        · simp
        · intro u hu
          refine ⟨of_decide_eq_true (List.mem_filter.1 hu).2, ?_⟩
          have := (shW_mem hd hu).1
          omega
        · exact (wordsN_srt hd _).sublist List.filter_sublist
        · intro t ht; cases ht
    rw [e2]; rfl
  rw [e]; rfl
theorem shWT_len {d n : Nat} (hd : d ≤ 3) (hn : n ≤ 8) (v w : ByteArray) : (shWT d n v w).length ≤ 1048576 := by
  unfold shWT
  split
  · show (0 : Nat) ≤ _; decide
  · rw [List.length_map]
    have h1 := List.length_filter_le (fun u => decide (0 < sh (bl v) (bl w) (bl u))) (wordsN d (v.size + w.size))
    have h2 := wordsN_le (d := d) (n := v.size + w.size) hd (by omega)
    unfold shW
    omega
/-! ### the value at a shuffle -/
/-- One word's share. -/
def atE (x : Ts) (v w u : ByteArray) : List (Option Fr) := if sh (bl v) (bl w) (bl u) = 0 ∨ (co x u).1 = 0 then [] else [mul (co x u) ((sh (bl v) (bl w) (bl u) : Nat), 1)]
def atL (x : Ts) (v w : ByteArray) (ws : List ByteArray) : List (Option Fr) := ws.filterMap fun u => if sh (bl v) (bl w) (bl u) = 0 ∨ (co x u).1 = 0 then none else some (mul (co x u) ((sh (bl v) (bl w) (bl u) : Nat), 1))
theorem atL_next {x : Ts} {v w u : ByteArray} {ws : List ByteArray} {i : Nat} (h : ws[i]? = some u) : atL x v w (ws.take (i + 1)) = atL x v w (ws.take i) ++ atE x v w u := by
  unfold atL atE
  rw [List.take_add_one, h, List.filterMap_append]
  congr 1
  show List.filterMap _ [u] = _
  by_cases h0 : sh (bl v) (bl w) (bl u) = 0 ∨ (co x u).1 = 0 <;> simp [h0]
theorem atL_split (x : Ts) (v w : ByteArray) (ws : List ByteArray) (i : Nat) : ∃ V, atL x v w ws = atL x v w (ws.take i) ++ V := by
  refine ⟨atL x v w (ws.drop i), ?_⟩
  unfold atL
  rw [← List.filterMap_append, List.take_append_drop]
theorem atE_skip {x : Ts} {v w u : ByteArray} (h : sh (bl v) (bl w) (bl u) = 0 ∨ (co x u).1 = 0) : atE x v w u = [] := by unfold atE; rw [if_pos h]
theorem atE_take {x : Ts} {v w u : ByteArray} (h1 : ¬ sh (bl v) (bl w) (bl u) = 0) (h2 : ¬ (co x u).1 = 0) : atE x v w u = [mul (co x u) ((sh (bl v) (bl w) (bl u) : Nat), 1)] := by unfold atE; rw [if_neg (by rintro (h | h) <;> contradiction)]
theorem atU_words (d : Nat) (x : Ts) (v w : ByteArray) : atU d x v w = atL x v w (wordsN d (v.size + w.size)) := rfl
theorem filterMap_filter' {α β : Type} {f : α → Option β} {p : α → Bool} : ∀ {l : List α}, (∀ a ∈ l, p a = false → f a = none) → (l.filter p).filterMap f = l.filterMap f
  | [], _ => rfl
  | a :: l, h => by
    have ih := filterMap_filter' (f := f) (p := p) (l := l) fun b hb => h b (List.mem_cons_of_mem _ hb)
    by_cases hp : p a = true
    · rw [List.filter_cons, if_pos hp, List.filterMap_cons, List.filterMap_cons, ih]
    · have hp' : p a = false := by simpa using hp
      rw [List.filter_cons, if_neg hp, List.filterMap_cons, h a List.mem_cons_self hp', ih]
theorem atU_shW (d : Nat) (x : Ts) (v w : ByteArray) : atU d x v w = atL x v w (shW d v w) := by
  rw [atU_words]
  unfold atL shW
  refine (filterMap_filter' fun u _ h => ?_).symm
  have h2 : ¬ 0 < sh (bl v) (bl w) (bl u) := of_decide_eq_false h
  rw [if_pos (.inl (by omega))]
theorem at_end (d : Nat) (x : Ts) (v w : ByteArray) : (atS d x v w = none ∧ (addsT ((fun _ => (0, 1)), false) ((atU d x v w).map fun p => (eps, p))).2 = true) ∨ ∃ c, atS d x v w = some c ∧ (addsT ((fun _ => (0, 1)), false) ((atU d x v w).map fun p => (eps, p))).2 = false ∧ (addsT ((fun _ => (0, 1)), false) ((atU d x v w).map fun p => (eps, p))).1 eps = c :=
  acc_adds eps (atU d x v w) (fun _ => (0, 1)) (0, 1) rfl
theorem at_bad {d : Nat} {x : Ts} {v w : ByteArray} {i : Nat} (h : accS (atL x v w ((shW d v w).take i)) = none) : atS d x v w = none := by
  unfold atS
  rw [atU_shW]
  obtain ⟨V, hV⟩ := atL_split x v w (shW d v w) i
  rw [hV]
  exact acc_bad h
end Go.Proofs.Ytaheikponfmdiaa.M
namespace Go.Proofs.Ytaheikponfmdiaa.H
open Go.RowKit Go.Proofs.YtaheikponfmdiaaW.PrintWords Go.Proofs.YtaheikponfmdiaaW.PrintLast Go.Proofs.YtaheikponfmdiaaW.PrintMore Go.Proofs.Ytaheikponfmdiaa.M
attribute [local go_sem] max2_int min2_int max_two min_two max_three min_three max_four min_four
set_option linter.unusedVariables false
set_option linter.unusedSimpArgs false
set_option maxRecDepth 100000
theorem specToYes (x y : Int) (w : World) : Calls Try.prog 95 #[.agg #[.int .i64 x, .int .i64 y], .bool true] w (RetF w (x, y, 0)) := by
  have HS := Aside0.mk (Sep.refl w)
  go_enter Try.func95, Try.ntmps95
  go_wp2_with (first | ((with_reducible refine gate_dst (N := 2) rfl ?_); refine bxL 35 #[.int .i64 x, .int .i64 y] HS ?_; clear HS; intro g_p w1 hg_p HS) | ((with_reducible refine gate_dst (N := 4) rfl ?_); refine bxL 35 #[(.int .i64 0), (.int .i64 0)] HS ?_; clear HS; intro g_r w1 hg_r HS; have f1_ := HS.out.c 1 0 (v := .int .i64 x) rfl rfl; have f2_ := HS.out.c 1 1 (v := .int .i64 y) rfl rfl) | ((with_reducible refine gate_store (t := 35) (p := 4) rfl ?_); refine stL HS 0 0 #[.int .i64 x, .int .i64 y] rfl rfl rfl rfl rfl ?_; clear HS f1_ f2_; intro w1 HS))
  refine bodyPost_ret (results_cell_tmp_row rfl _ _ g_r 35 #[.int .i64 x, .int .i64 y] (0, 0) _ rfl (HS.out.at (i := 0) rfl) Try.underlying35 rfl (by kernel_rfl)) rfl ?_
  exact ⟨rfl, HS.out.below⟩
theorem specToNo (x y : Int) (w : World) : Calls Try.prog 95 #[.agg #[.int .i64 x, .int .i64 y], .bool false] w (RetF w (0, 0, 3)) := by
  have HS := Aside0.mk (Sep.refl w)
  go_enter Try.func95, Try.ntmps95
  go_wp2_with (first | ((with_reducible refine gate_dst (N := 2) rfl ?_); refine bxL 35 #[.int .i64 x, .int .i64 y] HS ?_; clear HS; intro g_p w1 hg_p HS) | ((with_reducible refine gate_dst (N := 4) rfl ?_); refine bxL 35 #[(.int .i64 0), (.int .i64 0)] HS ?_; clear HS; intro g_r w1 hg_r HS) | ((with_reducible refine gate_store (t := 35) (p := 4) rfl ?_); refine stL HS 0 0 #[(.int .i64 0), (.int .i64 0)] rfl rfl rfl rfl rfl ?_; clear HS; intro w1 HS))
  refine bodyPost_ret (results_cell_tmp_row rfl _ _ g_r 35 #[(.int .i64 0), (.int .i64 0)] (0, 0) _ rfl (HS.out.at (i := 0) rfl) Try.underlying35 rfl (by kernel_rfl)) rfl ?_
  exact ⟨rfl, HS.out.below⟩
theorem implToYes (x y : Int) (w : World) : Calls Try.prog 99 #[.agg #[.int .i64 x, .int .i64 y], .bool true] w (RetF w (x, y, 0)) := by
  have HS := Aside0.mk (Sep.refl w)
  go_enter Try.func99, Try.ntmps99
  go_wp2_with (first | ((with_reducible refine gate_dst (N := 2) rfl ?_); refine bxL 35 #[.int .i64 x, .int .i64 y] HS ?_; clear HS; intro g_p w1 hg_p HS) | ((with_reducible refine gate_dst (N := 4) rfl ?_); refine bxL 35 #[(.int .i64 0), (.int .i64 0)] HS ?_; clear HS; intro g_r w1 hg_r HS; have f1_ := HS.out.c 1 0 (v := .int .i64 x) rfl rfl; have f2_ := HS.out.c 1 1 (v := .int .i64 y) rfl rfl) | ((with_reducible refine gate_store (t := 35) (p := 4) rfl ?_); refine stL HS 0 0 #[.int .i64 x, .int .i64 y] rfl rfl rfl rfl rfl ?_; clear HS f1_ f2_; intro w1 HS))
  refine bodyPost_ret (results_cell_tmp_row rfl _ _ g_r 35 #[.int .i64 x, .int .i64 y] (0, 0) _ rfl (HS.out.at (i := 0) rfl) Try.underlying35 rfl (by kernel_rfl)) rfl ?_
  exact ⟨rfl, HS.out.below⟩
theorem implToNo (x y : Int) (w : World) : Calls Try.prog 99 #[.agg #[.int .i64 x, .int .i64 y], .bool false] w (RetF w (0, 0, 3)) := by
  have HS := Aside0.mk (Sep.refl w)
  go_enter Try.func99, Try.ntmps99
  go_wp2_with (first | ((with_reducible refine gate_dst (N := 2) rfl ?_); refine bxL 35 #[.int .i64 x, .int .i64 y] HS ?_; clear HS; intro g_p w1 hg_p HS) | ((with_reducible refine gate_dst (N := 4) rfl ?_); refine bxL 35 #[(.int .i64 0), (.int .i64 0)] HS ?_; clear HS; intro g_r w1 hg_r HS) | ((with_reducible refine gate_store (t := 35) (p := 4) rfl ?_); refine stL HS 0 0 #[(.int .i64 0), (.int .i64 0)] rfl rfl rfl rfl rfl ?_; clear HS; intro w1 HS))
  refine bodyPost_ret (results_cell_tmp_row rfl _ _ g_r 35 #[(.int .i64 0), (.int .i64 0)] (0, 0) _ rfl (HS.out.at (i := 0) rfl) Try.underlying35 rfl (by kernel_rfl)) rfl ?_
  exact ⟨rfl, HS.out.below⟩
theorem tv_eps {w : World} {v d n : Nat} {f : ByteArray → Fr} {c : Fr} (h : (tV v d n f).I w) (hc : f eps = c) : w.cell? ⟨v, 0, none⟩ = some (.int .i64 c.1) ∧ w.cell? ⟨v, 1, none⟩ = some (.int .i64 c.2) := by
  have := tab_at (s := eps) h (by rfl) (Nat.zero_le _)
  rw [hc] at this
  exact ⟨this.1, this.2.1⟩
/-- A fraction and whether it fits. -/
def RetFQ (w : World) (o : Option Fr) (e : Ending) (w' : World) : Prop := e = .returned (.tuple #[.agg #[.int .i64 (sfrac o).1.1, .int .i64 (sfrac o).1.2], .bool (sfrac o).2]) ∧ Below w.heap.size w w'
end Go.Proofs.Ytaheikponfmdiaa.H

