/- AddSeries: what the program and the reference return. Conditions: the bounds that stand in each statement. -/
import Derived.Test.YtcklblagklojhaaKCode
import Derived.Test.YtcklblagklojhaaKPutT
namespace Go.Proofs.Ytcklblagklojhaa.M
def putF (l : Ts) (t : Tm) : Option Ts := put l t.1 t.2
/-- The sum of two rows. -/
def sumS (x y : Ts) : Option Ts := y.foldlM putF x
theorem isTs_bnd {d n : Nat} (hd : d ≤ 3) (hn : n ≤ 5) {l : Ts} (h : isTs d n l = true) : bnd l = true := by
  have h1 := ts_length_le (by omega) h
  have h2 := ahead_le hd (k := n + 1) (by omega)
  refine bnd_iff.2 ⟨by omega, fun t ht => ?_⟩
  have := (isTm_fr ((isTs_iff.1 h).1 t ht)).2.2.2
  omega
theorem sum_ts {d n : Nat} : ∀ {y x z : Ts}, isTs d n x = true → (∀ t ∈ y, isTm d n t = true) → y.foldlM putF x = some z → isTs d n z = true
  | [], x, z, hx, _, h => by
    have : x = z := by simpa using h
    rw [← this]; exact hx
  | t :: r, x, z, hx, hy, h => by
    obtain ⟨z1, z2, z3, z4⟩ := isTm_fr (hy t List.mem_cons_self)
    rw [List.foldlM_cons] at h
    unfold putF at h
    rcases put_co hx z3 z4 z1 with ⟨e1, _⟩ | ⟨l', s, e1, _, e3, _, _⟩
    · rw [e1] at h; cases h
    · rw [e1] at h
      exact sum_ts e3 (fun u hu => hy u (List.mem_cons_of_mem _ hu)) h
theorem sum_take {d n : Nat} {y x z : Ts} (hx : isTs d n x = true) (hy : isTs d n y = true) (i : Nat) (h : (y.take i).foldlM putF x = some z) : isTs d n z = true :=
  sum_ts hx (fun t ht => (isTs_iff.1 hy).1 t (List.mem_of_mem_take ht)) h
theorem sum_relS {d n : Nat} (hd : d ≤ 9) {x y : Ts} (hx : isTs d n x = true) (hy : isTs d n y = true) : Rel d n (sumS x y) (mapT d n (fun s => add (co x s) (co y s)) false (allW d n).length) := sum_rel hd hx hy
end Go.Proofs.Ytcklblagklojhaa.M
namespace Go.Proofs.Ytcklblagklojhaa.H
open Go.RowKit Go.Proofs.YtcklblagklojhaaW.PrintWords Go.Proofs.YtcklblagklojhaaW.PrintLast Go.Proofs.YtcklblagklojhaaW.PrintMore Go.Proofs.Ytcklblagklojhaa.M
attribute [local go_sem] max2_int min2_int max_two min_two max_three min_three max_four min_four resP
set_option linter.unusedVariables false
set_option linter.unusedSimpArgs false
set_option maxRecDepth 100000
set_option maxHeartbeats 16000000 in
theorem specSum (d n : Nat) (hd : d ≤ 3) (hn : n ≤ 5) (A : Option Addr) (c : Nat) (l : Ts) (k m : Int) (A2 : Option Addr) (cc : Nat) (l2 : Ts) (w : World) (hr : KT.C w A l.length l) (hr2 : KT.C w A2 l2.length l2) (hx : isTs d n l = true) (hy : isTs d n l2 = true) :
    Calls Try.prog 145 #[.agg #[.int .i64 (d : Int), .int .i64 (n : Int), .slice A l.length c], .agg #[.int .i64 k, .int .i64 m, .slice A2 l2.length cc]] w fun e w' => ∃ B b, e = .returned (.tuple #[.agg #[.int .i64 (resQ d n (sumS l l2)).1, .int .i64 (resQ d n (sumS l l2)).2.1, .slice B (resQ d n (sumS l l2)).2.2.1.length b], .bool (resQ d n (sumS l l2)).2.2.2]) ∧ Sep w w' [rowT B b (resQ d n (sumS l l2)).2.2.1] := by
  have HR := Aside0.mk hr
  have HR2 := Aside0.mk hr2
  have HX := Aside0.mk hx
  have HY := Aside0.mk hy
  have hll := (bnd_iff.1 (isTs_bnd hd hn hx)).1
  have hll2 := (bnd_iff.1 (isTs_bnd hd hn hy)).1
  have HSM := Aside0.mk (fun k (h : k < l2.length) => (by rw [getD_lt l2 zT k h]; exact (isTs_iff.1 hy).1 _ (List.getElem_mem h) : isTm d n (l2.getD k zT) = true))
  have HS := Aside0.mk (Sep.refl w)
  clear hr hr2 hx hy
  go_enter Try.func145, Try.ntmps145
  go_wp2_with (first | ((with_reducible refine gate_dst (N := 2) rfl ?_); refine wpList_stp (fun K hK => ?_); refine stp_box (by rfl) HS (cs := #[.int .i64 (d : Int), .int .i64 (n : Int), .slice A l.length c]) (t := 32) (by first | (go_simp; done) | (go_simp; rfl)) ?_; clear HS; intro g_p w1 hg_p HS; refine hK _ _ ?_; clear hK K) | ((with_reducible refine gate_dst (N := 3) rfl ?_); refine wpList_stp (fun K hK => ?_); refine stp_box (by rfl) HS (cs := #[.int .i64 k, .int .i64 m, .slice A2 l2.length cc]) (t := 32) (by first | (go_simp; done) | (go_simp; rfl)) ?_; clear HS; intro g_a w1 hg_a HS; refine hK _ _ ?_; clear hK K) | ((with_reducible refine gate_dst (N := 4) rfl ?_); refine wpList_stp (fun K hK => ?_); refine stp_box (by rfl) HS (cs := #[(.int .i64 0), (.int .i64 0), (.slice none 0 0)]) (t := 32) (by first | (go_simp; done) | (go_simp; rfl)) ?_; clear HS; intro g_r w1 hg_r HS; refine hK _ _ ?_; clear hK K; have f1_ := HS.out.c 2 0 (v := .int .i64 (d : Int)) rfl rfl; have f2_ := HS.out.c 2 1 (v := .int .i64 (n : Int)) rfl rfl; have f3_ := HS.out.c 2 2 (v := .slice A l.length c) rfl rfl) | (go_at_call 117; refine (specEmpty d n A l.length c _).mono ?_; rintro e_ w1 ⟨B, b, rfl, hs⟩; have n_ := Aside0.mk (HS.out.new hs); clear HS f1_ f2_ f3_ hs; have HS := n_; clear n_; simp only [List.cons_append, List.nil_append] at HS) | ((with_reducible refine gate_dst (N := 6) rfl ?_); refine wpList_stp (fun K hK => ?_); refine stp_box (by rfl) HS (cs := #[(.int .i64 0), (.int .i64 0), (.slice none 0 0)]) (t := 32) (by first | (go_simp; done) | (go_simp; rfl)) ?_; clear HS; intro g_q w1 hg_q HS; refine hK _ _ ?_; clear hK K) | ((with_reducible refine gate_store (t := 32) (p := 6) rfl ?_); refine wpList_stp (fun K hK => ?_); refine stp_set (by rfl) rfl rfl HS 0 0 (cs' := #[.int .i64 (d : Int), .int .i64 (n : Int), .slice B ([] : Ts).length b]) rfl rfl rfl (by kernel_rfl) rfl rfl ?_; clear HS; intro w1 HS; simp only [List.set_cons_zero, List.set_cons_succ] at HS; refine hK _ _ ?_; clear hK K; have f1_ := HS.out.c 0 2 (v := .slice B ([] : Ts).length b) rfl rfl; have f2_ := HS.out.c 4 2 (v := .slice A l.length c) rfl rfl) | ((with_reducible refine gate_builtin (b := .append) (xs := #[.tmp 13, .tmp 15]) rfl ?_); at_builtin; refine wpList_stp (fun K hK => ?_); refine stp_rows KT rfl (fun _ _ _ _ _ h => h) (by rfl) HS 1 (xs := []) rfl (.tmp 13) (.tmp 15) 30 (.agg #[(.string ⟨#[]⟩), (.int .i64 0), (.int .i64 0)]) 32 rfl Try.underlying30 infoTerm (by kernel_rfl) l rfl rfl (HS.out.oldC HR.out) (by show (0 + l.length) * 32 ≤ _; omega) ?_; clear HS f1_ f2_; intro A_y0 c_y0 y0 w1 Ny0 HS; simp only [List.set_cons_zero, List.set_cons_succ] at HS; refine hK _ _ ?_; clear hK K) | ((with_reducible refine gate_store (t := 30) (p := 17) rfl ?_); refine wpList_stp (fun K hK => ?_); refine stp_set (by rfl) rfl rfl HS 0 2 (cs' := #[.int .i64 (d : Int), .int .i64 (n : Int), (.slice A_y0 y0.length c_y0)]) rfl rfl rfl (by kernel_rfl) rfl rfl ?_; clear HS; intro w1 HS; simp only [List.set_cons_zero, List.set_cons_succ] at HS; refine hK _ _ ?_; clear hK K))
  go_loopw [7] (fun v w' => ∃ (i : Nat) (B : Option Addr) (b : Nat) (z : Ts), i ≤ l2.length ∧ v = .int .i64 (i : Int) ∧ Aside0 ((l2.take i).foldlM putF l = some z) ∧ Aside0 (Mod w w' No [bx g_q 32 #[.int .i64 (d : Int), .int .i64 (n : Int), .slice B z.length b], rowT B b z, bx g_r 32 #[(.int .i64 0), (.int .i64 0), (.slice none 0 0)], bx g_a 32 #[.int .i64 k, .int .i64 m, .slice A2 l2.length cc], bx g_p 32 #[.int .i64 (d : Int), .int .i64 (n : Int), .slice A l.length c]])) (fun v _ => l2.length - (intOf v).toNat)
  case atStart => exact ⟨0, A_y0, c_y0, y0, by omega, rfl, ⟨by rw [Ny0.out]; rfl⟩, HS⟩
  case round =>
    clear HS
    obtain ⟨i, B, b, z, hi, rfl, HZ, HS⟩ := hrel
    have HZT := Aside0.mk (sum_take HX.out HY.out i HZ.out)
    by_cases hlt : i < l2.length
    · have HN := Aside0.mk (foldM_next putF l2 l hlt)
      have htm := HSM.out i hlt
      have hgt := Aside0.mk (getD_lt l2 zT i hlt)
      obtain ⟨ad_A2, ea_, h0_, h1_, h2_⟩ := tm_at HR2.out i (hlt)
      cases ea_
      obtain ⟨t, ht_⟩ : ∃ t_, t_ = l2.getD i zT := ⟨_, rfl⟩
      rw [← ht_] at h0_ h1_ h2_
      have Et := Aside0.mk ht_; have H0t := Aside0.mk h0_; have H1t := Aside0.mk h1_; have H2t := Aside0.mk h2_
      clear ht_ h0_ h1_ h2_
      rw [← Et.out] at htm hgt
      rw [← hgt.out, HZ.out] at HN
      obtain ⟨z1, z2, z3, z4⟩ := isTm_fr htm
      have HSMT := Aside0.mk (fr_small z1)
      have hs5 : t.1.size ≤ 1048576 := by omega
      clear htm z1 z2 z3
      obtain ⟨g, hg⟩ : ∃ g, g = put z t.1 t.2 := ⟨_, rfl⟩
      have HP := Aside0.mk (fun W k1 k2 => hg ▸ specPut B b z t.1 t.2.1 t.2.2 W k1 k2 (isTs_bnd hd hn HZT.out) (isTs_small HZT.out) hs5 HSMT.out)
      have HG := Aside0.mk hg
      clear hg
      cases g with
      | none =>
        have f1_ := HS.out.c 3 2 (v := .slice (some ad_A2) l2.length cc) rfl rfl
        go_wp2
        clear f1_
        have n_ := Aside0.mk HS.out.drew
        clear HS
        have HS := n_
        clear n_
        refine plan_start (.p 0 (.p 2 (.p 4 (.p 8 (.p 10 (.t 1 (.t 3 (.p 5 (.p 6 (.t 7 (.t 9 (.p 11 (.p 12 (.t 13 (.d 14 (.p 15 (.p 16 (.p 17 (.p 18 (.p 19 .done)))))))))))))))))))) (fun w' => w'.cell? ⟨g_q, 2, none⟩ = some (.slice B z.length b) ∧ w'.cell? ⟨g_a, 2, none⟩ = some (.slice (some ad_A2) l2.length cc) ∧ w'.cell? (ad_A2.add (i * 3)) = some (.string t.1) ∧ w'.cell? ⟨(ad_A2.add (i * 3)).block, (ad_A2.add (i * 3)).off + 1, none⟩ = some (.int .i64 t.2.1) ∧ w'.cell? ⟨(ad_A2.add (i * 3)).block, (ad_A2.add (i * 3)).off + 1 + 1, none⟩ = some (.int .i64 t.2.2)) [14] (by kernel_rfl) (by kernel_rfl) (fun c_ a_ d_ v_ w_ h_ => by cases d_ <;> exact h_) ⟨HS.out.c 0 2 (v := .slice B z.length b) rfl rfl, HS.out.c 3 2 (v := .slice (some ad_A2) l2.length cc) rfl rfl, HS.out.old H0t.out, HS.out.old H1t.out, c2 (HS.out.old H2t.out)⟩ (fun hHeld => ?_)
        repeat (first | ((with_reducible refine gate_p ?_); refine run_p (v := ?_) rfl rfl (Or.inl ⟨by rfl, ?_⟩) (a' := ?_) ?_ ?_; rotate_left; (· (intro w'; first | (go_simp; with_reducible rfl) | (go_simp; done))); rotate_left; (· first | (simp only [Act.put, List.setIfInBounds_toArray, List.set_cons_zero, List.set_cons_succ, i64_w, i32_w]; rfl) | simp only [Act.put, List.setIfInBounds_toArray, List.set_cons_zero, List.set_cons_succ, i64_w, i32_w])) | ((with_reducible refine gate_t ?_); refine run_t (v := ?_) rfl rfl hHeld (Or.inl ⟨by rfl, ?_⟩) (a' := ?_) ?_ ?_; rotate_left; (· (intro w' hS_; first | (go_simp; with_reducible rfl) | (go_simp; done))); rotate_left; (· first | (simp only [Act.put, List.setIfInBounds_toArray, List.set_cons_zero, List.set_cons_succ, i64_w, i32_w]; rfl) | simp only [Act.put, List.setIfInBounds_toArray, List.set_cons_zero, List.set_cons_succ, i64_w, i32_w])))
        refine run_d rfl (fun K hK => ?_)
        refine goes_ Try.func136 (by kernel_rfl) rfl #[(.slice B z.length b), (.string t.1), .agg #[.int .i64 t.2.1, .int .i64 t.2.2]] (by rfl) rfl rfl (by simp only [List.map_toArray, List.map_cons, List.map_nil]; rfl) ?_
        refine (HP.out _ (HS.out.reads 1 rfl) (HS.out.cap 1 rfl)).mono ?_
        rintro e_ w1 ⟨B2, b2, rfl, hs⟩
        refine ⟨_, rfl, ?_⟩
        have n_ := Aside0.mk (HS.out.new hs)
        clear HS hs
        have HS := n_
        clear n_
        simp only [List.cons_append, List.nil_append] at HS
        refine goD hK (a' := ?_) ?_ ?_
        rotate_left
        · first | (simp only [Act.put, List.setIfInBounds_toArray, List.set_cons_zero, List.set_cons_succ, i64_w, i32_w]; rfl) | simp only [Act.put, List.setIfInBounds_toArray, List.set_cons_zero, List.set_cons_succ, i64_w, i32_w]
        clear hK K
        repeat (first | ((with_reducible refine gate_p ?_); refine run_p (v := ?_) rfl rfl (Or.inl ⟨by rfl, ?_⟩) (a' := ?_) ?_ ?_; rotate_left; (· (intro w'; first | (go_simp; with_reducible rfl) | (go_simp; done))); rotate_left; (· first | (simp only [Act.put, List.setIfInBounds_toArray, List.set_cons_zero, List.set_cons_succ, i64_w, i32_w]; rfl) | simp only [Act.put, List.setIfInBounds_toArray, List.set_cons_zero, List.set_cons_succ, i64_w, i32_w])) | ((with_reducible refine gate_t ?_); refine run_t (v := ?_) rfl rfl hHeld (Or.inl ⟨by rfl, ?_⟩) (a' := ?_) ?_ ?_; rotate_left; (· (intro w' hS_; first | (go_simp; with_reducible rfl) | (go_simp; done))); rotate_left; (· first | (simp only [Act.put, List.setIfInBounds_toArray, List.set_cons_zero, List.set_cons_succ, i64_w, i32_w]; rfl) | simp only [Act.put, List.setIfInBounds_toArray, List.set_cons_zero, List.set_cons_succ, i64_w, i32_w])))
        refine run_done ?_
        clear hHeld
        go_wp2_with (first | ((with_reducible refine gate_store (t := 32) (p := 4) rfl ?_); refine wpList_stp (fun K hK => ?_); refine stp_set (by rfl) rfl rfl HS 3 0 (cs' := #[(.int .i64 0), (.int .i64 0), (.slice none 0 0)]) rfl rfl rfl (by kernel_rfl) rfl rfl ?_; clear HS; intro w1 HS; simp only [List.set_cons_zero, List.set_cons_succ] at HS; refine hK _ _ ?_; clear hK K))
        refine bodyPost_ret (results_cell_tmp_row rfl _ _ g_r 32 #[(.int .i64 0), (.int .i64 0), (.slice none 0 0)] (0, 0) _ rfl (HS.out.at (i := 3) rfl) Try.underlying32 rfl (by kernel_rfl)) rfl ?_
        have e_ : sumS l l2 = none := foldM_none _ _ _ (i + 1) (by rw [HN.out]; show putF z t = none; unfold putF; rw [← HG.out])
        rw [e_]
        exact ⟨none, 0, rfl, nilS (HS.out.sel [] (by decide))⟩
      | some v =>
        have f1_ := HS.out.c 3 2 (v := .slice (some ad_A2) l2.length cc) rfl rfl
        go_wp2
        clear f1_
        have n_ := Aside0.mk HS.out.drew
        clear HS
        have HS := n_
        clear n_
        refine plan_start (.p 0 (.p 2 (.p 4 (.p 8 (.p 10 (.t 1 (.t 3 (.p 5 (.p 6 (.t 7 (.t 9 (.p 11 (.p 12 (.t 13 (.d 14 (.p 15 (.p 16 (.p 17 (.p 18 (.p 19 .done)))))))))))))))))))) (fun w' => w'.cell? ⟨g_q, 2, none⟩ = some (.slice B z.length b) ∧ w'.cell? ⟨g_a, 2, none⟩ = some (.slice (some ad_A2) l2.length cc) ∧ w'.cell? (ad_A2.add (i * 3)) = some (.string t.1) ∧ w'.cell? ⟨(ad_A2.add (i * 3)).block, (ad_A2.add (i * 3)).off + 1, none⟩ = some (.int .i64 t.2.1) ∧ w'.cell? ⟨(ad_A2.add (i * 3)).block, (ad_A2.add (i * 3)).off + 1 + 1, none⟩ = some (.int .i64 t.2.2)) [14] (by kernel_rfl) (by kernel_rfl) (fun c_ a_ d_ v_ w_ h_ => by cases d_ <;> exact h_) ⟨HS.out.c 0 2 (v := .slice B z.length b) rfl rfl, HS.out.c 3 2 (v := .slice (some ad_A2) l2.length cc) rfl rfl, HS.out.old H0t.out, HS.out.old H1t.out, c2 (HS.out.old H2t.out)⟩ (fun hHeld => ?_)
        repeat (first | ((with_reducible refine gate_p ?_); refine run_p (v := ?_) rfl rfl (Or.inl ⟨by rfl, ?_⟩) (a' := ?_) ?_ ?_; rotate_left; (· (intro w'; first | (go_simp; with_reducible rfl) | (go_simp; done))); rotate_left; (· first | (simp only [Act.put, List.setIfInBounds_toArray, List.set_cons_zero, List.set_cons_succ, i64_w, i32_w]; rfl) | simp only [Act.put, List.setIfInBounds_toArray, List.set_cons_zero, List.set_cons_succ, i64_w, i32_w])) | ((with_reducible refine gate_t ?_); refine run_t (v := ?_) rfl rfl hHeld (Or.inl ⟨by rfl, ?_⟩) (a' := ?_) ?_ ?_; rotate_left; (· (intro w' hS_; first | (go_simp; with_reducible rfl) | (go_simp; done))); rotate_left; (· first | (simp only [Act.put, List.setIfInBounds_toArray, List.set_cons_zero, List.set_cons_succ, i64_w, i32_w]; rfl) | simp only [Act.put, List.setIfInBounds_toArray, List.set_cons_zero, List.set_cons_succ, i64_w, i32_w])))
        refine run_d rfl (fun K hK => ?_)
        refine goes_ Try.func136 (by kernel_rfl) rfl #[(.slice B z.length b), (.string t.1), .agg #[.int .i64 t.2.1, .int .i64 t.2.2]] (by rfl) rfl rfl (by simp only [List.map_toArray, List.map_cons, List.map_nil]; rfl) ?_
        refine (HP.out _ (HS.out.reads 1 rfl) (HS.out.cap 1 rfl)).mono ?_
        rintro e_ w1 ⟨B2, b2, rfl, hs⟩
        refine ⟨_, rfl, ?_⟩
        have n_ := Aside0.mk (HS.out.new hs)
        clear HS hs
        have HS := n_
        clear n_
        simp only [List.cons_append, List.nil_append] at HS
        refine goD hK (a' := ?_) ?_ ?_
        rotate_left
        · first | (simp only [Act.put, List.setIfInBounds_toArray, List.set_cons_zero, List.set_cons_succ, i64_w, i32_w]; rfl) | simp only [Act.put, List.setIfInBounds_toArray, List.set_cons_zero, List.set_cons_succ, i64_w, i32_w]
        clear hK K
        repeat (first | ((with_reducible refine gate_p ?_); refine run_p (v := ?_) rfl rfl (Or.inl ⟨by rfl, ?_⟩) (a' := ?_) ?_ ?_; rotate_left; (· (intro w'; first | (go_simp; with_reducible rfl) | (go_simp; done))); rotate_left; (· first | (simp only [Act.put, List.setIfInBounds_toArray, List.set_cons_zero, List.set_cons_succ, i64_w, i32_w]; rfl) | simp only [Act.put, List.setIfInBounds_toArray, List.set_cons_zero, List.set_cons_succ, i64_w, i32_w])) | ((with_reducible refine gate_t ?_); refine run_t (v := ?_) rfl rfl hHeld (Or.inl ⟨by rfl, ?_⟩) (a' := ?_) ?_ ?_; rotate_left; (· (intro w' hS_; first | (go_simp; with_reducible rfl) | (go_simp; done))); rotate_left; (· first | (simp only [Act.put, List.setIfInBounds_toArray, List.set_cons_zero, List.set_cons_succ, i64_w, i32_w]; rfl) | simp only [Act.put, List.setIfInBounds_toArray, List.set_cons_zero, List.set_cons_succ, i64_w, i32_w])))
        refine run_done ?_
        clear hHeld
        go_wp2_with (first | ((with_reducible refine gate_store (t := 30) (p := 47) rfl ?_); refine wpList_stp (fun K hK => ?_); refine stp_set (by rfl) rfl rfl HS 1 2 (cs' := #[.int .i64 (d : Int), .int .i64 (n : Int), (.slice B2 v.length b2)]) rfl rfl rfl (by kernel_rfl) rfl rfl ?_; clear HS; intro w1 HS; simp only [List.set_cons_zero, List.set_cons_succ] at HS; refine hK _ _ ?_; clear hK K))
        go_roundw
        case rel => exact ⟨i + 1, B2, b2, v, by omega, by go_num, ⟨by rw [HN.out]; show putF z t = _; unfold putF; rw [← HG.out]⟩, ⟨HS.out.sel [1, 0, 3, 4, 5] (by decide)⟩⟩
        case measure => simp [intOf]; omega
    · obtain rfl : i = l2.length := by omega
      have f1_ := HS.out.c 3 2 (v := .slice A2 l2.length cc) rfl rfl
      have f2_ := HS.out.c 0 0 (v := .int .i64 (d : Int)) rfl rfl
      have f3_ := HS.out.c 0 1 (v := .int .i64 (n : Int)) rfl rfl
      have f4_ := HS.out.c 0 2 (v := .slice B z.length b) rfl rfl
      go_wp2_with (first | ((with_reducible refine gate_store (t := 32) (p := 4) rfl ?_); refine wpList_stp (fun K hK => ?_); refine stp_set (by rfl) rfl rfl HS 2 0 (cs' := #[.int .i64 (d : Int), .int .i64 (n : Int), .slice B z.length b]) rfl rfl rfl (by kernel_rfl) rfl rfl ?_; clear HS f1_ f2_ f3_ f4_; intro w1 HS; simp only [List.set_cons_zero, List.set_cons_succ] at HS; refine hK _ _ ?_; clear hK K))
      refine bodyPost_ret (results_cell_tmp_row rfl _ _ g_r 32 #[.int .i64 (d : Int), .int .i64 (n : Int), .slice B z.length b] (0, 0) _ rfl (HS.out.at (i := 2) rfl) Try.underlying32 rfl (by kernel_rfl)) rfl ?_
      have e_ : sumS l l2 = some z := by have := HZ.out; rwa [List.take_length] at this
      rw [e_]
      exact ⟨B, b, rfl, HS.out.sel [1] (by decide)⟩
end Go.Proofs.Ytcklblagklojhaa.H

