/- Tables: additions at a word, the unit, a series' table. Conditions: the bounds that stand in each statement. -/
import Derived.Test.YtcklblagklojhaaKTable2
namespace Go.Proofs.Ytcklblagklojhaa.M
theorem orZ_fits {o : Option Fr} {x y : Int} (h : ∀ c, o = some c → c = (x, y)) : (if o.isSome = true then x else 0) = (orZ o).1 ∧ (if o.isSome = true then y else 1) = (orZ o).2 := by
  cases o with
  | none => exact ⟨rfl, rfl⟩
  | some c => obtain rfl := h c rfl; exact ⟨rfl, rfl⟩
theorem isSome_not {α : Type} (o : Option α) : (!o.isSome) = o.isNone := by cases o <;> rfl
theorem co_take_succ {d n : Nat} {l : Ts} (h : isTs d n l = true) {k : Nat} (hk : k < l.length) : co (l.take (k + 1)) = upd (co (l.take k)) (l.getD k H.zT).1 (l.getD k H.zT).2 := by
  have hs : Srt l := (isTs_iff.1 h).2
  have hz : l.getD k H.zT = l[k] := H.getD_lt l H.zT k hk
  rw [hz]
  funext u
  unfold upd
  have hne : ∀ t ∈ l.take k, t.1 ≠ (l[k]).1 := fun t ht e => by
    obtain ⟨j, hj, rfl⟩ := List.getElem_of_mem ht
    rw [List.length_take] at hj
    rw [List.getElem_take] at e
    have := List.pairwise_iff_getElem.1 hs j k (by omega) hk (by omega)
    rw [e, bef_irrefl] at this
    cases this
  rw [List.take_add_one, List.getElem?_eq_getElem hk]
  show co (l.take k ++ [l[k]]) u = _
  have gen : ∀ (m : Ts) (t : Tm), (∀ x ∈ m, x.1 ≠ t.1) → co (m ++ [t]) u = if u = t.1 then t.2 else co m u := by
    intro m t hm
    induction m with
    | nil =>
      rw [List.nil_append, co_cons]
      by_cases e : t.1 = u
      · rw [if_pos e, if_pos e.symm]
      · rw [if_neg e, if_neg (fun h => e h.symm)]
    | cons a m ih =>
      rw [List.cons_append, co_cons, co_cons, ih (fun x hx => hm x (List.mem_cons_of_mem _ hx))]
      have ha := hm a List.mem_cons_self
      by_cases e : a.1 = u
      · rw [if_pos e, if_pos e, if_neg (fun h => ha (e.trans h))]
      · rw [if_neg e, if_neg e]
  exact gen _ _ hne
end Go.Proofs.Ytcklblagklojhaa.M
namespace Go.Proofs.Ytcklblagklojhaa.H
open Go.RowKit Go.Proofs.YtcklblagklojhaaW.PrintWords Go.Proofs.YtcklblagklojhaaW.PrintLast Go.Proofs.YtcklblagklojhaaW.PrintMore Go.Proofs.Ytcklblagklojhaa.M
attribute [local go_sem] max2_int min2_int max_two min_two max_three min_three max_four min_four
set_option linter.unusedVariables false
set_option linter.unusedSimpArgs false
set_option maxRecDepth 100000
section
variable {P : Program} {ops : Array Oper} {o : Oper} {a : Act} {Q : Exit → Act → World → Prop} {Kc : Act → World → Prop} {w W : World} {S : Nat → Prop} {L : List As}
theorem stp_put_tab (hw : Region.wanted o (yielded ops a.tmps) = true) (hN : o.dst = none) {ty : TypeId} {x y : Operand} (ho : o.op = .store ty x y) (HS : Aside0 (Mod w W S L)) (i : Nat) {v d n k : Nat} {f : ByteArray → Fr} (hi : L[i]? = some (tV v d n f)) (s : ByteArray) (hd : d ≤ 9) (hs : isWd d s = true) (hn : s.size ≤ n) (hk : num d s = k) (c : Fr)
    (hx : a.eval x = .pointer (some ⟨v, k * 2, none⟩)) (hy : a.eval y = .agg #[.int .i64 c.1, .int .i64 c.2]) (hsz : (P.info? ty).map (·.size) = some 2) (h : ∀ w1, Aside0 (Mod w w1 S (L.set i (tV v d n (upd f s c)))) → Kc a w1) : Stp P ops Q o a W Kc := by
  subst hk
  have hlt : num d s < (tabL d n f).length := by rw [tabL_length]; exact num_lt' hs hn
  have hl := fc_length (tabL d n f)
  refine stp_set hw hN ho HS i (num d s * 2) (cs' := (fc ((tabL d n f).set (num d s) c)).toArray) hi hx hy hsz ?_ (over_fc _ _ c hlt) (by rw [tabL_set hd hs hn]; exact h)
  rw [Bool.and_eq_true, decide_eq_true_eq]
  refine ⟨?_, rfl⟩
  show num d s * 2 + 2 ≤ (fc (tabL d n f)).toArray.size
  rw [List.size_toArray]; omega
end
/-- A table of one's own: the struct and the values lie in two blocks. -/
abbrev Own2 (g v : Nat) : Nat → Prop := fun k => k = g ∨ k = v
theorem tab_ne {w : World} {g v d n N : Nat} {bad : Bool} {f : ByteArray → Fr} (h1 : (tS g v d n N bad).I w) (h2 : (tV v d n f).I w) : g ≠ v := by
  rintro rfl
  have := Option.some.inj ((show w.heap[g]? = _ from h1).symm.trans h2)
  injection this with _ h _
  exact absurd h (by decide)
theorem tab_own {w : World} {g v d n N : Nat} {bad : Bool} {f : ByteArray → Fr} (h1 : (tS g v d n N bad).I w) (h2 : (tV v d n f).I w) : Mod w w (Own2 g v) [tS g v d n N bad, tV v d n f] := by
  have hne := tab_ne h1 h2
  refine ⟨rfl, rfl, rfl, Nat.le_refl _, fun _ _ _ => rfl, fun a ha => ?_, ?_⟩
  · simp only [List.mem_cons, List.not_mem_nil, or_false] at ha
    rcases ha with rfl | rfl
    · exact ⟨h1, fun k hk => .inl (.inl hk)⟩
    · exact ⟨h2, fun k hk => .inl (.inr hk)⟩
  · refine List.pairwise_cons.2 ⟨fun b hb k h3 h4 => ?_, List.pairwise_singleton _ _⟩
    obtain rfl := List.mem_singleton.1 hb
    exact hne ((show k = g from h3).symm.trans h4)
theorem implCheckO (g v d n N : Nat) (bad : Bool) (o : Option Fr) (x y : Int) (h : ∀ c, o = some c → c = (x, y)) (w : World) (ht : (tS g v d n N bad).I w) :
    Calls Try.prog 187 #[.pointer (some ⟨g, 0, none⟩), .agg #[.int .i64 x, .int .i64 y], .bool o.isSome] w fun e w' => e = .returned (.agg #[.int .i64 (orZ o).1, .int .i64 (orZ o).2]) ∧ Mod w w' (fun k => k = g) [tS g v d n N (bad || o.isNone)] := by
  have := implCheck g v d n N bad o.isSome x y w ht
  rwa [(orZ_fits h).1, (orZ_fits h).2, isSome_not] at this
set_option maxHeartbeats 4000000 in
theorem implAdd (g v d n : Nat) (bad : Bool) (f : ByteArray → Fr) (s : ByteArray) (a : Fr) (w : World) (hl : lev d n = true) (ht : (tS g v d n (nW d n) bad).I w) (hv : (tV v d n f).I w) (hw : isWd d s = true) (hn : s.size ≤ n) (hf : fr (f s) = true) (ha : fr a = true) :
    Calls Try.prog 189 #[.pointer (some ⟨g, 0, none⟩), .string s, .agg #[.int .i64 a.1, .int .i64 a.2]] w fun e w' => e = .returned (.tuple #[]) ∧ Mod w w' (Own2 g v) [tS g v d n (nW d n) (bad || (add (f s) a).isNone), tV v d n (upd f s (orZ (add (f s) a)))] := by
  obtain ⟨hd1, hd3, hn1, hn5⟩ := lev_bd hl
  have HS := Aside0.mk (tab_own ht hv)
  have HW := Aside0.mk hw
  have HF := Aside0.mk hf
  have HA := Aside0.mk ha
  have hs5 : s.size ≤ 5 := by omega
  have hlt : num d s < nW d n := num_lt' hw hn
  have HC := Aside0.mk (fun (W : World) (h : (tV v d n f).I W) => tab_at h hw hn)
  clear ht hv hl hw hf ha
  obtain ⟨k, hk⟩ : ∃ k, num d s = k := ⟨_, rfl⟩
  have CN := fun W => (hk ▸ implNumber d s W hd1 hd3 HW.out hs5 : Calls Try.prog 138 #[.int .i64 (d : Int), .string s] W fun e w' => e = .returned (.int .i64 ((k : Nat) : Int)) ∧ Below W.heap.size W w')
  rw [hk] at hlt HC
  have HCN := Aside0.mk CN
  have HK := Aside0.mk hk
  clear CN hk
  obtain ⟨N, hN⟩ : ∃ N, N = nW d n := ⟨_, rfl⟩
  rw [← hN] at hlt HS
  rw [← hN]
  clear hN
  have hq0 : (0 : Int) ≤ k := by omega
  have hq1 : (k : Int) < N := by omega
  obtain ⟨o, ho⟩ : ∃ o, o = add (f s) a := ⟨_, rfl⟩
  have HP := Aside0.mk (fun W => ho ▸ implPlusF (f s) a W HF.out HA.out)
  rw [← ho]
  clear ho
  go_enter Try.func189, Try.ntmps189
  go_wp2_with (first | ((with_reducible refine gate_dst (N := 5) rfl ?_); refine wpList_stp (fun K hK => ?_); refine stp_box (by rfl) HS (cs := #[.int .i64 a.1, .int .i64 a.2]) (t := 24) (by first | (go_simp; done) | (go_simp; rfl)) ?_; clear HS; intro g_b w1 hg_b HS; refine hK _ _ ?_; clear hK K; have f1_ := HS.out.c 1 0 (v := .int .i64 (d : Int)) rfl rfl) | (go_at_call 138; refine (HCN.out _).mono ?_; rintro e_ w1 ⟨rfl, hb⟩; have n_ := Aside0.mk (HS.out.call hb); clear HS f1_ hb; have HS := n_; clear n_))
  have n_ := Aside0.mk HS.out.drew
  clear HS
  have HS := n_
  clear n_
  refine plan_start (.p 0 (.p 1 (.p 2 (.p 4 (.p 5 (.p 6 (.p 7 (.p 8 (.p 10 (.t 3 (.t 9 (.p 11 (.t 12 (.t 13 (.e 14 (.p 15 (.p 16 (.e 17 (.p 18 (.d 19 .done)))))))))))))))))))) (fun w' => w'.cell? ⟨g, 2, none⟩ = some (.slice (some ⟨v, 0, none⟩) N N) ∧ w'.cell? ⟨v, k * 2, none⟩ = some (.int .i64 (f s).1) ∧ w'.cell? ⟨v, k * 2 + 1, none⟩ = some (.int .i64 (f s).2) ∧ w'.cell? ⟨g_b, 0, none⟩ = some (.int .i64 a.1) ∧ w'.cell? ⟨g_b, 1, none⟩ = some (.int .i64 a.2)) [19] (by kernel_rfl) (by kernel_rfl) (fun c_ a_ d_ v_ w_ h_ => by cases d_ <;> exact h_) ⟨HS.out.c 1 2 (v := .slice (some ⟨v, 0, none⟩) N N) rfl rfl, (HC.out _ (HS.out.at (i := 2) rfl)).1, (HC.out _ (HS.out.at (i := 2) rfl)).2.1, HS.out.c 0 0 (v := .int .i64 a.1) rfl rfl, HS.out.c 0 1 (v := .int .i64 a.2) rfl rfl⟩ (fun hHeld => ?_)
  repeat (first | ((with_reducible refine gate_p ?_); refine run_p (v := ?_) rfl rfl (Or.inl ⟨by rfl, ?_⟩) (a' := ?_) ?_ ?_; rotate_left; (· (intro w'; first | (go_simp; with_reducible rfl) | (go_simp; done))); rotate_left; (· first | (simp only [Act.put, List.setIfInBounds_toArray, List.set_cons_zero, List.set_cons_succ, i64_w, i32_w]; rfl) | simp only [Act.put, List.setIfInBounds_toArray, List.set_cons_zero, List.set_cons_succ, i64_w, i32_w])) | ((with_reducible refine gate_t ?_); refine run_t (v := ?_) rfl rfl hHeld (Or.inl ⟨by rfl, ?_⟩) (a' := ?_) ?_ ?_; rotate_left; (· (intro w' hS_; first | (go_simp; with_reducible rfl) | (go_simp; done))); rotate_left; (· first | (simp only [Act.put, List.setIfInBounds_toArray, List.set_cons_zero, List.set_cons_succ, i64_w, i32_w]; rfl) | simp only [Act.put, List.setIfInBounds_toArray, List.set_cons_zero, List.set_cons_succ, i64_w, i32_w])))
  refine run_e rfl (fun K hK => ?_)
  refine goes_ Try.func198 (by kernel_rfl) rfl #[.agg #[.int .i64 (f s).1, .int .i64 (f s).2], .agg #[.int .i64 a.1, .int .i64 a.2]] (by rfl) rfl rfl (by simp only [List.map_toArray, List.map_cons, List.map_nil]; rfl) ?_
  refine (HP.out _).mono ?_
  rintro e_ w1 ⟨x, y, hxy, rfl, hb⟩
  refine ⟨_, rfl, ?_⟩
  have n_ := Aside0.mk (HS.out.call hb)
  clear HS hb
  have HS := n_
  clear n_
  refine goE hK ⟨HS.out.c 1 2 (v := .slice (some ⟨v, 0, none⟩) N N) rfl rfl, (HC.out _ (HS.out.at (i := 2) rfl)).1, (HC.out _ (HS.out.at (i := 2) rfl)).2.1, HS.out.c 0 0 (v := .int .i64 a.1) rfl rfl, HS.out.c 0 1 (v := .int .i64 a.2) rfl rfl⟩ (a' := ?_) ?_ (fun hHeld => ?_)
  rotate_left
  · first | (simp only [Act.put, List.setIfInBounds_toArray, List.set_cons_zero, List.set_cons_succ, i64_w, i32_w]; rfl) | simp only [Act.put, List.setIfInBounds_toArray, List.set_cons_zero, List.set_cons_succ, i64_w, i32_w]
  clear hK K
  repeat (first | ((with_reducible refine gate_p ?_); refine run_p (v := ?_) rfl rfl (Or.inl ⟨by rfl, ?_⟩) (a' := ?_) ?_ ?_; rotate_left; (· (intro w'; first | (go_simp; with_reducible rfl) | (go_simp; done))); rotate_left; (· first | (simp only [Act.put, List.setIfInBounds_toArray, List.set_cons_zero, List.set_cons_succ, i64_w, i32_w]; rfl) | simp only [Act.put, List.setIfInBounds_toArray, List.set_cons_zero, List.set_cons_succ, i64_w, i32_w])) | ((with_reducible refine gate_t ?_); refine run_t (v := ?_) rfl rfl hHeld (Or.inl ⟨by rfl, ?_⟩) (a' := ?_) ?_ ?_; rotate_left; (· (intro w' hS_; first | (go_simp; with_reducible rfl) | (go_simp; done))); rotate_left; (· first | (simp only [Act.put, List.setIfInBounds_toArray, List.set_cons_zero, List.set_cons_succ, i64_w, i32_w]; rfl) | simp only [Act.put, List.setIfInBounds_toArray, List.set_cons_zero, List.set_cons_succ, i64_w, i32_w])))
  refine run_e rfl (fun K hK => ?_)
  refine goes_ Try.func187 (by kernel_rfl) rfl #[(.pointer (some ⟨g, 0, none⟩)), .agg #[.int .i64 x, .int .i64 y], (.bool o.isSome)] (by rfl) rfl rfl (by simp only [List.map_toArray, List.map_cons, List.map_nil]; rfl) ?_
  refine (implCheckO g v d n N bad o x y hxy _ (HS.out.at (i := 1) rfl)).mono ?_
  rintro e_ w1 ⟨rfl, hs⟩
  refine ⟨_, rfl, ?_⟩
  have n_ := Aside0.mk (Mod.step (A0 := [bx g 106 #[.int .i64 (d : Int), .int .i64 (n : Int), .slice (some ⟨v, 0, none⟩) N N, .bool bad]]) (R := [bx g_b 24 #[.int .i64 a.1, .int .i64 a.2], tV v d n f]) (HS.out.sel [1, 0, 2] (by decide)) hs (fun k_ hk_ => ⟨_, List.mem_cons_self, hk_⟩))
  clear HS hs
  have HS := n_
  clear n_
  simp only [List.cons_append, List.nil_append] at HS
  refine goE hK ⟨HS.out.c 0 2 (v := .slice (some ⟨v, 0, none⟩) N N) rfl rfl, (HC.out _ (HS.out.at (i := 2) rfl)).1, (HC.out _ (HS.out.at (i := 2) rfl)).2.1, HS.out.c 1 0 (v := .int .i64 a.1) rfl rfl, HS.out.c 1 1 (v := .int .i64 a.2) rfl rfl⟩ (a' := ?_) ?_ (fun hHeld => ?_)
  rotate_left
  · first | (simp only [Act.put, List.setIfInBounds_toArray, List.set_cons_zero, List.set_cons_succ, i64_w, i32_w]; rfl) | simp only [Act.put, List.setIfInBounds_toArray, List.set_cons_zero, List.set_cons_succ, i64_w, i32_w]
  clear hK K
  repeat (first | ((with_reducible refine gate_p ?_); refine run_p (v := ?_) rfl rfl (Or.inl ⟨by rfl, ?_⟩) (a' := ?_) ?_ ?_; rotate_left; (· (intro w'; first | (go_simp; with_reducible rfl) | (go_simp; done))); rotate_left; (· first | (simp only [Act.put, List.setIfInBounds_toArray, List.set_cons_zero, List.set_cons_succ, i64_w, i32_w]; rfl) | simp only [Act.put, List.setIfInBounds_toArray, List.set_cons_zero, List.set_cons_succ, i64_w, i32_w])) | ((with_reducible refine gate_t ?_); refine run_t (v := ?_) rfl rfl hHeld (Or.inl ⟨by rfl, ?_⟩) (a' := ?_) ?_ ?_; rotate_left; (· (intro w' hS_; first | (go_simp; with_reducible rfl) | (go_simp; done))); rotate_left; (· first | (simp only [Act.put, List.setIfInBounds_toArray, List.set_cons_zero, List.set_cons_succ, i64_w, i32_w]; rfl) | simp only [Act.put, List.setIfInBounds_toArray, List.set_cons_zero, List.set_cons_succ, i64_w, i32_w])))
  refine run_d rfl (fun K hK => ?_)
  refine stp_put_tab (by rfl) rfl rfl HS 2 rfl s (by omega) HW.out hn HK.out (orZ o) rfl rfl (by kernel_rfl) ?_
  clear HS
  intro w1 HS
  simp only [List.set_cons_zero, List.set_cons_succ] at HS
  refine goD hK rfl ?_
  clear hK K
  refine run_done ?_
  clear hHeld
  go_wp2
  have n_ := Aside0.mk (HS.out.sel [0, 2] (by decide)); clear HS; have HS := n_; clear n_; simp only [List.filterMap_cons, List.filterMap_nil, List.getElem?_cons_zero, List.getElem?_cons_succ] at HS
  refine bodyPost_end (results_none rfl _ _ _) rfl ?_
  exact ⟨rfl, HS.out⟩
set_option maxHeartbeats 4000000 in
theorem implAddTimes (g v d n : Nat) (bad : Bool) (f : ByteArray → Fr) (s : ByteArray) (a b : Fr) (w : World) (hl : lev d n = true) (ht : (tS g v d n (nW d n) bad).I w) (hv : (tV v d n f).I w) (hw : isWd d s = true) (hn : s.size ≤ n) (hf : fr (f s) = true) (ha : fr a = true) (hb : fr b = true) :
    Calls Try.prog 135 #[.pointer (some ⟨g, 0, none⟩), .string s, .agg #[.int .i64 a.1, .int .i64 a.2], .agg #[.int .i64 b.1, .int .i64 b.2]] w fun e w' => e = .returned (.tuple #[]) ∧
      Mod w w' (Own2 g v) [tS g v d n (nW d n) (addT (f, bad) (s, mul a b)).2, tV v d n (addT (f, bad) (s, mul a b)).1] := by
  have HS := Aside0.mk (tab_own ht hv)
  have HW := Aside0.mk hw
  have HF := Aside0.mk hf
  have HA := Aside0.mk ha
  have HB := Aside0.mk hb
  have HL := Aside0.mk hl
  clear ht hv hl hw hf ha hb
  obtain ⟨N, hN⟩ : ∃ N, N = nW d n := ⟨_, rfl⟩
  have HN := Aside0.mk hN
  rw [← hN] at HS
  rw [← hN]
  clear hN
  obtain ⟨o, ho⟩ : ∃ o, o = mul a b := ⟨_, rfl⟩
  have HP := Aside0.mk (fun W => ho ▸ implTimesF a b W HA.out HB.out)
  have HO := Aside0.mk (orZ_fr (o := o) (fun c hc => mul_fr (by rw [← ho]; exact hc)))
  rw [← ho]
  clear ho
  go_enter Try.func135, Try.ntmps135
  go_wp2_with (first | ((with_reducible refine gate_dst (N := 6) rfl ?_); refine wpList_stp (fun K hK => ?_); refine stp_box (by rfl) HS (cs := #[.int .i64 a.1, .int .i64 a.2]) (t := 24) (by first | (go_simp; done) | (go_simp; rfl)) ?_; clear HS; intro g_a w1 hg_a HS; refine hK _ _ ?_; clear hK K) | ((with_reducible refine gate_dst (N := 7) rfl ?_); refine wpList_stp (fun K hK => ?_); refine stp_box (by rfl) HS (cs := #[.int .i64 b.1, .int .i64 b.2]) (t := 24) (by first | (go_simp; done) | (go_simp; rfl)) ?_; clear HS; intro g_b w1 hg_b HS; refine hK _ _ ?_; clear hK K; have f1_ := HS.out.c 1 0 (v := .int .i64 a.1) rfl rfl; have f2_ := HS.out.c 1 1 (v := .int .i64 a.2) rfl rfl; have f3_ := HS.out.c 0 0 (v := .int .i64 b.1) rfl rfl; have f4_ := HS.out.c 0 1 (v := .int .i64 b.2) rfl rfl) | (go_at_call 155; refine (HP.out _).mono ?_; rintro e_ w1 ⟨x, y, hxy, rfl, hb⟩; have n_ := Aside0.mk (HS.out.call hb); clear HS f1_ f2_ f3_ f4_ hb; have HS := n_; clear n_) | (go_at_call 187; refine (implCheckO g v d n N bad o x y hxy _ (HS.out.at (i := 2) rfl)).mono ?_; rintro e_ w1 ⟨rfl, hs⟩; have n_ := Aside0.mk (Mod.step (A0 := [bx g 106 #[.int .i64 (d : Int), .int .i64 (n : Int), .slice (some ⟨v, 0, none⟩) N N, .bool bad]]) (R := [bx g_b 24 #[.int .i64 b.1, .int .i64 b.2], bx g_a 24 #[.int .i64 a.1, .int .i64 a.2], tV v d n f]) (HS.out.sel [2, 0, 1, 3] (by decide)) hs (fun k_ hk_ => ⟨_, List.mem_cons_self, hk_⟩)); clear HS hs; have HS := n_; clear n_; simp only [List.cons_append, List.nil_append] at HS) | (go_at_call 189; refine (implAdd g v d n (bad || o.isNone) f s (orZ o) _ HL.out (HN.out ▸ HS.out.at (i := 0) rfl) (HS.out.at (i := 3) rfl) HW.out hn HF.out HO.out).mono ?_; rintro e_ w1 ⟨rfl, hs⟩; have n_ := Aside0.mk (Mod.step (A0 := [bx g 106 #[.int .i64 (d : Int), .int .i64 (n : Int), .slice (some ⟨v, 0, none⟩) N N, .bool (bad || o.isNone)], tV v d n f]) (R := [bx g_b 24 #[.int .i64 b.1, .int .i64 b.2], bx g_a 24 #[.int .i64 a.1, .int .i64 a.2]]) (HS.out.sel [0, 3, 1, 2] (by decide)) hs (fun k_ hk_ => hk_.elim (fun h_ => ⟨_, List.mem_cons_self, h_⟩) (fun h_ => ⟨_, List.mem_cons_of_mem _ List.mem_cons_self, h_⟩))); clear HS hs; have HS := n_; clear n_; simp only [List.cons_append, List.nil_append] at HS))
  have n_ := Aside0.mk (HS.out.sel [0, 1] (by decide)); clear HS; have HS := n_; clear n_; simp only [List.filterMap_cons, List.filterMap_nil, List.getElem?_cons_zero, List.getElem?_cons_succ] at HS
  refine bodyPost_end (results_none rfl _ _ _) rfl ?_
  exact ⟨rfl, HN.out ▸ HS.out⟩
set_option maxHeartbeats 4000000 in
theorem implUnit (g v d n N : Nat) (bad : Bool) (w : World) (hl : lev d n = true) (ht : (tS g v d n N bad).I w) : Calls Try.prog 115 #[.pointer (some ⟨g, 0, none⟩)] w fun e w' =>
    ∃ g' v', e = .returned (.pointer (some ⟨g', 0, none⟩)) ∧ Sep w w' [tS g' v' d n (nW d n) false, tV v' d n (upd (fun _ => (0, 1)) ⟨#[]⟩ (1, 1))] := by
  obtain ⟨hd1, hd3, hn1, hn5⟩ := lev_bd hl
  have HT := Aside0.mk ht
  have HL := Aside0.mk hl
  have HS := Aside0.mk (Sep.refl w)
  have hlt : num d ⟨#[]⟩ < nW d n := num_lt' (by rfl) (Nat.zero_le _)
  have hk0 : num d ⟨#[]⟩ = 0 := rfl
  clear ht hl
  obtain ⟨M, hM⟩ : ∃ M, M = nW d n := ⟨_, rfl⟩
  have HM := Aside0.mk hM
  rw [← hM, hk0] at hlt
  have CL' := fun g v W h => hM ▸ implLike g v d n N bad W HL.out h
  have HCL := Aside0.mk CL'
  rw [← hM]
  clear hM hk0 CL'
  have hq1 : (0 : Int) < M := by omega
  go_enter Try.func115, Try.ntmps115
  go_wp2_with (first | (go_at_call 184; refine (HCL.out _ _ _ (HS.out.oldI HT.out)).mono ?_; rintro e_ w1 ⟨g', v', rfl, hs⟩; have n_ := Aside0.mk (HS.out.new hs); clear HS hs; have HS := n_; clear n_; simp only [List.cons_append, List.nil_append] at HS))
  have n_ := Aside0.mk HS.out.drew
  clear HS
  have HS := n_
  clear n_
  refine plan_start (.p 0 (.p 1 (.p 2 (.t 3 (.e 4 (.p 5 (.d 6 .done))))))) (fun w' => w'.cell? ⟨g', 2, none⟩ = some (.slice (some ⟨v', 0, none⟩) M M)) [6] (by kernel_rfl) (by kernel_rfl) (fun c_ a_ d_ v_ w_ h_ => by cases d_ <;> exact h_) (HS.out.c 0 2 (v := .slice (some ⟨v', 0, none⟩) M M) rfl rfl) (fun hHeld => ?_)
  repeat (first | ((with_reducible refine gate_p ?_); refine run_p (v := ?_) rfl rfl (Or.inl ⟨by rfl, ?_⟩) (a' := ?_) ?_ ?_; rotate_left; (· (intro w'; first | (go_simp; with_reducible rfl) | (go_simp; done))); rotate_left; (· first | (simp only [Act.put, List.setIfInBounds_toArray, List.set_cons_zero, List.set_cons_succ, i64_w, i32_w]; rfl) | simp only [Act.put, List.setIfInBounds_toArray, List.set_cons_zero, List.set_cons_succ, i64_w, i32_w])) | ((with_reducible refine gate_t ?_); refine run_t (v := ?_) rfl rfl hHeld (Or.inl ⟨by rfl, ?_⟩) (a' := ?_) ?_ ?_; rotate_left; (· (intro w' hS_; first | (go_simp; with_reducible rfl) | (go_simp; done))); rotate_left; (· first | (simp only [Act.put, List.setIfInBounds_toArray, List.set_cons_zero, List.set_cons_succ, i64_w, i32_w]; rfl) | simp only [Act.put, List.setIfInBounds_toArray, List.set_cons_zero, List.set_cons_succ, i64_w, i32_w])))
  refine run_e rfl (fun K hK => ?_)
  refine goes_ Try.func104 (by kernel_rfl) rfl #[(.int .i64 1)] (by rfl) rfl rfl (by simp only [List.map_toArray, List.map_cons, List.map_nil]; rfl) ?_
  refine (implWhole 1 _).mono ?_
  rintro e_ w1 ⟨rfl, hb⟩
  refine ⟨_, rfl, ?_⟩
  have n_ := Aside0.mk (HS.out.call hb)
  clear HS hb
  have HS := n_
  clear n_
  refine goE hK (HS.out.c 0 2 (v := .slice (some ⟨v', 0, none⟩) M M) rfl rfl) (a' := ?_) ?_ (fun hHeld => ?_)
  rotate_left
  · first | (simp only [Act.put, List.setIfInBounds_toArray, List.set_cons_zero, List.set_cons_succ, i64_w, i32_w]; rfl) | simp only [Act.put, List.setIfInBounds_toArray, List.set_cons_zero, List.set_cons_succ, i64_w, i32_w]
  clear hK K
  repeat (first | ((with_reducible refine gate_p ?_); refine run_p (v := ?_) rfl rfl (Or.inl ⟨by rfl, ?_⟩) (a' := ?_) ?_ ?_; rotate_left; (· (intro w'; first | (go_simp; with_reducible rfl) | (go_simp; done))); rotate_left; (· first | (simp only [Act.put, List.setIfInBounds_toArray, List.set_cons_zero, List.set_cons_succ, i64_w, i32_w]; rfl) | simp only [Act.put, List.setIfInBounds_toArray, List.set_cons_zero, List.set_cons_succ, i64_w, i32_w])) | ((with_reducible refine gate_t ?_); refine run_t (v := ?_) rfl rfl hHeld (Or.inl ⟨by rfl, ?_⟩) (a' := ?_) ?_ ?_; rotate_left; (· (intro w' hS_; first | (go_simp; with_reducible rfl) | (go_simp; done))); rotate_left; (· first | (simp only [Act.put, List.setIfInBounds_toArray, List.set_cons_zero, List.set_cons_succ, i64_w, i32_w]; rfl) | simp only [Act.put, List.setIfInBounds_toArray, List.set_cons_zero, List.set_cons_succ, i64_w, i32_w])))
  refine run_d rfl (fun K hK => ?_)
  refine stp_put_tab (by rfl) rfl rfl HS 1 (k := 0) rfl ⟨#[]⟩ (by omega) (by rfl) (Nat.zero_le _) rfl (1, 1) rfl rfl (by kernel_rfl) ?_
  clear HS
  intro w1 HS
  simp only [List.set_cons_zero, List.set_cons_succ] at HS
  refine goD hK rfl ?_
  clear hK K
  refine run_done ?_
  clear hHeld
  go_wp2
  go_ret
  exact ⟨g', v', rfl, HS.out⟩
end Go.Proofs.Ytcklblagklojhaa.H

