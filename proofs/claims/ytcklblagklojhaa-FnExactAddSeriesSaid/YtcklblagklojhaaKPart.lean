/- PartOf: what the program and the reference return. Conditions: the bounds that stand in each statement. -/
import Derived.Test.YtcklblagklojhaaKUnit
namespace Go.Proofs.Ytcklblagklojhaa.M
def ofLen (k : Int) (t : Tm) : Bool := decide ((t.1.size : Int) = k)
def partR (d n : Int) (l : Ts) (k : Int) : Rs := if isS d n l = true then if inR k 0 5 = true then (d, n, l.filter (ofLen k), 0) else noS 2 else noS 1
theorem part_len {d n : Int} {l : Ts} {k : Int} (h : bnd l = true) : (partR d n l k).2.2.1.length ≤ 1048576 := by
  unfold partR noS
  split
  · split
    · exact Nat.le_trans (List.length_filter_le _ _) (bnd_iff.1 h).1
    · show (0 : Nat) ≤ _; decide
  · show (0 : Nat) ≤ _; decide
theorem filter_next {l : Ts} {k : Nat} (hk : k < l.length) (p : Tm → Bool) : (l.take (k + 1)).filter p = (l.take k).filter p ++ (if p (l.getD k H.zT) = true then [l.getD k H.zT] else []) := by
  rw [List.take_add_one, List.getElem?_eq_getElem hk, List.filter_append, H.getD_lt l H.zT k hk]
  congr 1
  show List.filter p [l[k]] = _
  by_cases h : p l[k] = true
  · simp [h]
  · simp [h]
end Go.Proofs.Ytcklblagklojhaa.M
namespace Go.Proofs.Ytcklblagklojhaa.H
open Go.RowKit Go.Proofs.YtcklblagklojhaaW.PrintWords Go.Proofs.YtcklblagklojhaaW.PrintLast Go.Proofs.YtcklblagklojhaaW.PrintMore Go.Proofs.Ytcklblagklojhaa.M
attribute [local go_sem] max2_int min2_int max_two min_two max_three min_three max_four min_four
set_option linter.unusedVariables false
set_option linter.unusedSimpArgs false
set_option maxRecDepth 100000
theorem implPart1 (s : ByteArray) (k : Int) (q : Nat) (w : World) (hq : (bx q 2 #[.int .i64 k]).I w) (hs : s.size ≤ 9223372036854775807) :
    Calls Try.prog 121 #[.string s, .pointer (some ⟨q, 0, none⟩)] w fun e w' => e = .returned (.bool (decide ((s.size : Int) = k))) ∧ Below w.heap.size w w' := by
  have HQ := Aside0.mk hq
  have HS := Aside0.mk (Sep.refl w)
  clear hq
  go_enter Try.func121, Try.ntmps121
  have f1_ := bx_c (HS.out.oldI HQ.out) 0 (v := .int .i64 k) rfl
  go_wp2
  go_ret
  exact ⟨ret_bool (by first | rfl | (simp; done) | (by_cases h : (s.size : Int) = k <;> simp [h])), HS.out.below⟩
set_option maxHeartbeats 8000000 in
theorem implChosenPart (d n : Int) (A : Option Addr) (c : Nat) (l : Ts) (k : Int) (q : Nat) (w : World) (hr : KT.C w A l.length l) (hb : bnd l = true) (hq : (bx q 2 #[.int .i64 k]).I w) :
    Calls Try.prog 118 #[.agg #[.int .i64 d, .int .i64 n, .slice A l.length c], .func (.func 121) #[] #[.pointer (some ⟨q, 0, none⟩)]] w fun e w' => ∃ B b, e = .returned (.agg #[.int .i64 d, .int .i64 n, .slice B (l.filter (ofLen k)).length b]) ∧ Sep w w' [rowT B b (l.filter (ofLen k))] := by
  have HR := Aside0.mk hr
  have HQ := Aside0.mk hq
  have hll := (bnd_iff.1 hb).1
  have HZ := Aside0.mk (fun j => bnd_get hb j)
  have HS := Aside0.mk ((Sep.refl w).nil (d := KT) (hE := rfl) (e := 77))
  clear hr hb hq
  go_enter Try.func118, Try.ntmps118
  go_wp2_with (first | ((with_reducible refine gate_dst (N := 2) rfl ?_); refine wpList_stp (fun K hK => ?_); refine stp_box (by rfl) HS (cs := #[.int .i64 d, .int .i64 n, .slice A l.length c]) (t := 32) (by first | (go_simp; done) | (go_simp; rfl)) ?_; clear HS; intro g_x w1 hg_x HS; refine hK _ _ ?_; clear hK K) | ((with_reducible refine gate_dst (N := 4) rfl ?_); refine wpList_stp (fun K hK => ?_); refine stp_box (by rfl) HS (cs := #[(.int .i64 0), (.int .i64 0), (.slice none 0 0)]) (t := 32) (by first | (go_simp; done) | (go_simp; rfl)) ?_; clear HS; intro g_r w1 hg_r HS; refine hK _ _ ?_; clear hK K; have f1_ := HS.out.c 1 0 (v := .int .i64 d) rfl rfl; have f2_ := HS.out.c 1 1 (v := .int .i64 n) rfl rfl) | ((with_reducible refine gate_dst (N := 5) rfl ?_); refine wpList_stp (fun K hK => ?_); refine stp_box (by rfl) HS (cs := #[(.int .i64 0), (.int .i64 0), (.slice none 0 0)]) (t := 32) (by first | (go_simp; done) | (go_simp; rfl)) ?_; clear HS f1_ f2_; intro g_y w1 hg_y HS; refine hK _ _ ?_; clear hK K) | ((with_reducible refine gate_store (t := 32) (p := 5) rfl ?_); refine wpList_stp (fun K hK => ?_); refine stp_set (by rfl) rfl rfl HS 0 0 (cs' := #[(.int .i64 d), (.int .i64 n), (.slice none 0 0)]) rfl rfl rfl (by kernel_rfl) rfl rfl ?_; clear HS; intro w1 HS; simp only [List.set_cons_zero, List.set_cons_succ] at HS; refine hK _ _ ?_; clear hK K; have f1_ := HS.out.c 2 2 (v := .slice A l.length c) rfl rfl))
  go_loopw [16] (fun v w' => ∃ (i : Nat) (B : Option Addr) (b : Nat) (z : Ts), i ≤ l.length ∧ v = .int .i64 (i : Int) ∧ Aside0 (z = (l.take i).filter (ofLen k)) ∧ Aside0 (Mod w w' No [bx g_y 32 #[.int .i64 d, .int .i64 n, .slice B z.length b], bx g_r 32 #[(.int .i64 0), (.int .i64 0), (.slice none 0 0)], bx g_x 32 #[.int .i64 d, .int .i64 n, .slice A l.length c], rowT B b z])) (fun v _ => l.length - (intOf v).toNat)
  case atStart => exact ⟨0, none, 0, [], by omega, rfl, ⟨rfl⟩, HS⟩
  case round =>
    clear HS
    obtain ⟨i, B, b, z, hi, rfl, HY, HS⟩ := hrel
    by_cases hlt : i < l.length
    · have hzl : z.length ≤ 1048576 := by rw [HY.out]; exact Nat.le_trans (List.length_filter_le _ _) (by rw [List.length_take]; omega)
      have HN := Aside0.mk (filter_next hlt (ofLen k))
      have hsz := HZ.out i
      obtain ⟨ad_A, ea_, h0_, h1_, h2_⟩ := tm_at HR.out i (hlt)
      cases ea_
      obtain ⟨t, ht_⟩ : ∃ t_, t_ = l.getD i zT := ⟨_, rfl⟩
      rw [← ht_] at h0_ h1_ h2_
      have Et := Aside0.mk ht_; have H0t := Aside0.mk h0_; have H1t := Aside0.mk h1_; have H2t := Aside0.mk h2_
      clear ht_ h0_ h1_ h2_
      rw [← Et.out] at hsz HN
      cases hp : decide ((t.1.size : Int) = k) with
      | false =>
        have f1_ := HS.out.old H0t.out
        have f2_ := HS.out.old H1t.out
        have f3_ := HS.out.old H2t.out
        go_wp2_with (first | ((with_reducible refine gate_dst (N := 7) rfl ?_); refine wpList_stp (fun K hK => ?_); refine stp_box (by rfl) HS (cs := #[(.string ⟨#[]⟩), (.int .i64 0), (.int .i64 0)]) (t := 77) (by first | (go_simp; done) | (go_simp; rfl)) ?_; clear HS f1_ f2_ f3_; intro g_u w1 hg_u HS; refine hK _ _ ?_; clear hK K) | ((with_reducible refine gate_store (t := 77) (p := 7) rfl ?_); refine wpList_stp (fun K hK => ?_); refine stp_set (by rfl) rfl rfl HS 0 0 (cs' := #[.string t.1, .int .i64 t.2.1, .int .i64 t.2.2]) rfl rfl rfl (by kernel_rfl) rfl rfl ?_; clear HS; intro w1 HS; simp only [List.set_cons_zero, List.set_cons_succ] at HS; refine hK _ _ ?_; clear hK K; have f1_ := HS.out.c 0 0 (v := .string t.1) rfl rfl) | (go_at_call 121; refine (implPart1 t.1 k q _ (HS.out.oldI HQ.out) (by omega)).mono ?_; rintro e_ w1 ⟨rfl, hb⟩; have n_ := Aside0.mk (HS.out.call hb); clear HS f1_ hb; have HS := n_; clear n_))
        have n_ := Aside0.mk (HS.out.sel [1, 2, 3, 4] (by decide)); clear HS; have HS := n_; clear n_; simp only [List.filterMap_cons, List.filterMap_nil, List.getElem?_cons_zero, List.getElem?_cons_succ] at HS
        go_roundw
        case rel => exact ⟨i + 1, B, b, z, by omega, by go_num, ⟨by rw [HN.out, if_neg (by unfold ofLen; rw [hp]; decide), List.append_nil, HY.out]⟩, HS⟩
        case measure => simp [intOf]; omega
      | true =>
        have f1_ := HS.out.old H0t.out
        have f2_ := HS.out.old H1t.out
        have f3_ := HS.out.old H2t.out
        go_wp2_with (first | ((with_reducible refine gate_dst (N := 7) rfl ?_); refine wpList_stp (fun K hK => ?_); refine stp_box (by rfl) HS (cs := #[(.string ⟨#[]⟩), (.int .i64 0), (.int .i64 0)]) (t := 77) (by first | (go_simp; done) | (go_simp; rfl)) ?_; clear HS f1_ f2_ f3_; intro g_u w1 hg_u HS; refine hK _ _ ?_; clear hK K) | ((with_reducible refine gate_store (t := 77) (p := 7) rfl ?_); refine wpList_stp (fun K hK => ?_); refine stp_set (by rfl) rfl rfl HS 0 0 (cs' := #[.string t.1, .int .i64 t.2.1, .int .i64 t.2.2]) rfl rfl rfl (by kernel_rfl) rfl rfl ?_; clear HS; intro w1 HS; simp only [List.set_cons_zero, List.set_cons_succ] at HS; refine hK _ _ ?_; clear hK K; have f1_ := HS.out.c 0 0 (v := .string t.1) rfl rfl) | (go_at_call 121; refine (implPart1 t.1 k q _ (HS.out.oldI HQ.out) (by omega)).mono ?_; rintro e_ w1 ⟨rfl, hb⟩; have n_ := Aside0.mk (HS.out.call hb); clear HS f1_ hb; have HS := n_; clear n_; have f1_ := HS.out.c 1 2 (v := .slice B z.length b) rfl rfl; have f2_ := HS.out.c 0 0 (v := .string t.1) rfl rfl; have f3_ := HS.out.c 0 1 (v := .int .i64 t.2.1) rfl rfl; have f4_ := HS.out.c 0 2 (v := .int .i64 t.2.2) rfl rfl) | ((with_reducible refine gate_builtin (b := .append) (xs := #[.tmp 25, .tmp 27]) rfl ?_); at_builtin; refine wpList_stp (fun K hK => ?_); refine stp_app (KT) rfl (by rfl) HS 4 rfl (.tmp 25) (.tmp 27) 30 77 (.agg #[(.string ⟨#[]⟩), (.int .i64 0), (.int .i64 0)]) 32 rfl Try.underlying30 infoTerm (by kernel_rfl) (t) [.string t.1, .int .i64 t.2.1, .int .i64 t.2.2] rfl (by first | rfl | (show Value.slice (some ⟨_, 0, none⟩) 1 1 = _; simp)) (KT_M t) (by omega) ?_; clear HS f1_ f2_ f3_ f4_; intro A_z' c_z' z' w1 Nz' HS; simp only [List.set_cons_zero, List.set_cons_succ] at HS; refine hK _ _ ?_; clear hK K) | ((with_reducible refine gate_store (t := 30) (p := 29) rfl ?_); refine wpList_stp (fun K hK => ?_); refine stp_set (by rfl) rfl rfl HS 1 2 (cs' := #[.int .i64 d, .int .i64 n, (.slice A_z' z'.length c_z')]) rfl rfl rfl (by kernel_rfl) rfl rfl ?_; clear HS; intro w1 HS; simp only [List.set_cons_zero, List.set_cons_succ] at HS; refine hK _ _ ?_; clear hK K))
        have n_ := Aside0.mk (HS.out.sel [1, 2, 3, 4] (by decide)); clear HS; have HS := n_; clear n_; simp only [List.filterMap_cons, List.filterMap_nil, List.getElem?_cons_zero, List.getElem?_cons_succ] at HS
        go_roundw
        case rel => exact ⟨i + 1, A_z', c_z', z', by omega, by go_num, ⟨by rw [Nz'.out, HN.out, if_pos (by unfold ofLen; exact hp), HY.out]⟩, HS⟩
        case measure => simp [intOf]; omega
    · obtain rfl : i = l.length := by omega
      have f1_ := HS.out.c 0 0 (v := .int .i64 d) rfl rfl
      have f2_ := HS.out.c 0 1 (v := .int .i64 n) rfl rfl
      have f3_ := HS.out.c 0 2 (v := .slice B z.length b) rfl rfl
      go_wp2_with (first | ((with_reducible refine gate_store (t := 32) (p := 4) rfl ?_); refine wpList_stp (fun K hK => ?_); refine stp_set (by rfl) rfl rfl HS 1 0 (cs' := #[.int .i64 d, .int .i64 n, .slice B z.length b]) rfl rfl rfl (by kernel_rfl) rfl rfl ?_; clear HS f1_ f2_ f3_; intro w1 HS; simp only [List.set_cons_zero, List.set_cons_succ] at HS; refine hK _ _ ?_; clear hK K))
      refine bodyPost_ret (results_cell_row rfl _ _ g_r 32 #[.int .i64 d, .int .i64 n, .slice B z.length b] (0, 0) _ rfl (HS.out.at (i := 1) rfl) Try.underlying32 rfl (by kernel_rfl)) rfl ?_
      rw [List.take_length] at HY
      obtain rfl := HY.out
      have n_ := Aside0.mk (HS.out.sel [3] (by decide)); clear HS; have HS := n_; clear n_; simp only [List.filterMap_cons, List.filterMap_nil, List.getElem?_cons_zero, List.getElem?_cons_succ] at HS
      exact ⟨B, b, rfl, HS.out⟩
set_option maxHeartbeats 8000000 in
theorem specPart (d n : Int) (A : Option Addr) (c : Nat) (l : Ts) (k : Int) (w : World) (hr : KT.C w A l.length l) (hb : bnd l = true) :
    Calls Try.prog 120 #[.agg #[.int .i64 d, .int .i64 n, .slice A l.length c], .int .i64 k] w fun e w' => ∃ B b, e = .returned (.agg #[.int .i64 d, .int .i64 n, .slice B (l.filter (ofLen k)).length b]) ∧ Sep w w' [rowT B b (l.filter (ofLen k))] := by
  have HR := Aside0.mk hr
  have hll := (bnd_iff.1 hb).1
  have HZ := Aside0.mk (fun j => bnd_get hb j)
  have HS := Aside0.mk (Sep.refl w)
  clear hr hb
  go_enter Try.func120, Try.ntmps120
  go_wp2_with (first | ((with_reducible refine gate_dst (N := 2) rfl ?_); refine wpList_stp (fun K hK => ?_); refine stp_box (by rfl) HS (cs := #[.int .i64 d, .int .i64 n, .slice A l.length c]) (t := 32) (by first | (go_simp; done) | (go_simp; rfl)) ?_; clear HS; intro g_x w1 hg_x HS; refine hK _ _ ?_; clear hK K) | ((with_reducible refine gate_dst (N := 4) rfl ?_); refine wpList_stp (fun K hK => ?_); refine stp_box (by rfl) HS (cs := #[(.int .i64 0), (.int .i64 0), (.slice none 0 0)]) (t := 32) (by first | (go_simp; done) | (go_simp; rfl)) ?_; clear HS; intro g_r w1 hg_r HS; refine hK _ _ ?_; clear hK K; have f1_ := HS.out.c 1 0 (v := .int .i64 d) rfl rfl; have f2_ := HS.out.c 1 1 (v := .int .i64 n) rfl rfl; have f3_ := HS.out.c 1 2 (v := .slice A l.length c) rfl rfl) | (go_at_call 117; refine (specEmpty d n A l.length c _).mono ?_; rintro e_ w1 ⟨B, b, rfl, hs⟩; have n_ := Aside0.mk (HS.out.new hs); clear HS f1_ f2_ f3_ hs; have HS := n_; clear n_; simp only [List.cons_append, List.nil_append] at HS) | ((with_reducible refine gate_dst (N := 5) rfl ?_); refine wpList_stp (fun K hK => ?_); refine stp_box (by rfl) HS (cs := #[(.int .i64 0), (.int .i64 0), (.slice none 0 0)]) (t := 32) (by first | (go_simp; done) | (go_simp; rfl)) ?_; clear HS; intro g_y w1 hg_y HS; refine hK _ _ ?_; clear hK K) | ((with_reducible refine gate_store (t := 32) (p := 5) rfl ?_); refine wpList_stp (fun K hK => ?_); refine stp_set (by rfl) rfl rfl HS 0 0 (cs' := #[.int .i64 d, .int .i64 n, .slice B ([] : Ts).length b]) rfl rfl rfl (by kernel_rfl) rfl rfl ?_; clear HS; intro w1 HS; simp only [List.set_cons_zero, List.set_cons_succ] at HS; refine hK _ _ ?_; clear hK K))
  go_loopw [6] (fun v w' => ∃ (i : Nat) (B : Option Addr) (b : Nat) (z : Ts), i ≤ l.length ∧ v = .int .i64 (i : Int) ∧ Aside0 (z = (l.take i).filter (ofLen k)) ∧ Aside0 (Mod w w' No [bx g_y 32 #[.int .i64 d, .int .i64 n, .slice B z.length b], rowT B b z, bx g_r 32 #[(.int .i64 0), (.int .i64 0), (.slice none 0 0)], bx g_x 32 #[.int .i64 d, .int .i64 n, .slice A l.length c]])) (fun v _ => l.length - (intOf v).toNat)
  case atStart => exact ⟨0, B, b, [], by omega, rfl, ⟨rfl⟩, HS⟩
  case round =>
    clear HS
    obtain ⟨i, B, b, z, hi, rfl, HY, HS⟩ := hrel
    by_cases hlt : i < l.length
    · have hzl : z.length ≤ 1048576 := by rw [HY.out]; exact Nat.le_trans (List.length_filter_le _ _) (by rw [List.length_take]; omega)
      have HN := Aside0.mk (filter_next hlt (ofLen k))
      have hsz := HZ.out i
      obtain ⟨ad_A, ea_, h0_, h1_, h2_⟩ := tm_at HR.out i (hlt)
      cases ea_
      obtain ⟨t, ht_⟩ : ∃ t_, t_ = l.getD i zT := ⟨_, rfl⟩
      rw [← ht_] at h0_ h1_ h2_
      have Et := Aside0.mk ht_; have H0t := Aside0.mk h0_; have H1t := Aside0.mk h1_; have H2t := Aside0.mk h2_
      clear ht_ h0_ h1_ h2_
      rw [← Et.out] at hsz HN
      by_cases hp : (t.1.size : Int) = k
      · have HP := Aside0.mk hp
        have hpb : ((t.1.size : Int) == k) = true := by rw [hp]; simp
        clear hp
        have f1_ := HS.out.c 3 2 (v := .slice (some ad_A) l.length c) rfl rfl
        have f2_ := HS.out.old H0t.out
        go_wp2
        clear f1_ f2_
        have n_ := Aside0.mk HS.out.drew
        clear HS
        have HS := n_
        clear n_
        refine plan_start (.p 0 (.p 2 (.p 4 (.t 1 (.t 3 (.p 5 (.t 6 (.e 7 (.d 8 (.p 9 (.d 10 .done))))))))))) (fun w' => w'.cell? ⟨g_y, 2, none⟩ = some (.slice B z.length b) ∧ w'.cell? ⟨g_x, 2, none⟩ = some (.slice (some ad_A) l.length c) ∧ w'.cell? (ad_A.add (i * 3)) = some (.string t.1) ∧ w'.cell? ⟨(ad_A.add (i * 3)).block, (ad_A.add (i * 3)).off + 1, none⟩ = some (.int .i64 t.2.1) ∧ w'.cell? ⟨(ad_A.add (i * 3)).block, (ad_A.add (i * 3)).off + 2, none⟩ = some (.int .i64 t.2.2)) [8, 10] (by kernel_rfl) (by kernel_rfl) (fun c_ a_ d_ v_ w_ h_ => by cases d_ <;> exact h_) ⟨HS.out.c 0 2 (v := .slice B z.length b) rfl rfl, HS.out.c 3 2 (v := .slice (some ad_A) l.length c) rfl rfl, HS.out.old H0t.out, HS.out.old H1t.out, HS.out.old H2t.out⟩ (fun hHeld => ?_)
        repeat (first | ((with_reducible refine gate_p ?_); refine run_p (v := ?_) rfl rfl (Or.inl ⟨by rfl, ?_⟩) (a' := ?_) ?_ ?_; rotate_left; (· (intro w'; first | (go_simp; with_reducible rfl) | (go_simp; done))); rotate_left; (· first | (simp only [Act.put, List.setIfInBounds_toArray, List.set_cons_zero, List.set_cons_succ, i64_w, i32_w]; rfl) | simp only [Act.put, List.setIfInBounds_toArray, List.set_cons_zero, List.set_cons_succ, i64_w, i32_w])) | ((with_reducible refine gate_t ?_); refine run_t (v := ?_) rfl rfl hHeld (Or.inl ⟨by rfl, ?_⟩) (a' := ?_) ?_ ?_; rotate_left; (· (intro w' hS_; first | (go_simp; with_reducible rfl) | (go_simp; done))); rotate_left; (· first | (simp only [Act.put, List.setIfInBounds_toArray, List.set_cons_zero, List.set_cons_succ, i64_w, i32_w]; rfl) | simp only [Act.put, List.setIfInBounds_toArray, List.set_cons_zero, List.set_cons_succ, i64_w, i32_w])))
        refine run_e rfl (fun K hK => ?_)
        refine stp_lit (KT) rfl 77 (by rfl) HS (xs := [t]) (inner := [.string t.1, .int .i64 t.2.1, .int .i64 t.2.2]) (by first | (go_simp; done) | (go_simp; rfl)) (fun W base ok => Reps.snoc (Reps.none _ _) (KT_M t W base ok) rfl) (by simp) ?_
        clear HS
        intro A_u c_u w1 HS
        refine goE hK ⟨HS.out.c 1 2 (v := .slice B z.length b) rfl rfl, HS.out.c 4 2 (v := .slice (some ad_A) l.length c) rfl rfl, HS.out.old H0t.out, HS.out.old H1t.out, HS.out.old H2t.out⟩ (a' := ?_) ?_ (fun hHeld => ?_)
        rotate_left
        · first | (simp only [Act.put, List.setIfInBounds_toArray, List.set_cons_zero, List.set_cons_succ, i64_w, i32_w]; rfl) | simp only [Act.put, List.setIfInBounds_toArray, List.set_cons_zero, List.set_cons_succ, i64_w, i32_w]
        clear hK K
        refine run_d rfl (fun K hK => ?_)
        refine stp_rows KT rfl (fun _ _ _ _ _ h => h) (by rfl) HS 2 rfl (.tmp 26) (.tmp 32) 30 (.agg #[(.string ⟨#[]⟩), (.int .i64 0), (.int .i64 0)]) 32 rfl Try.underlying30 infoTerm (by kernel_rfl) [t] rfl rfl (HS.out.reads 0 rfl) (by show (z.length + 1) * 32 ≤ _; omega) ?_
        clear HS
        intro A_y' c_y' y' w1 Ny' HS
        simp only [List.set_cons_zero, List.set_cons_succ] at HS
        refine goD hK (a' := ?_) ?_ ?_
        rotate_left
        · first | (simp only [Act.put, List.setIfInBounds_toArray, List.set_cons_zero, List.set_cons_succ, i64_w, i32_w]; rfl) | simp only [Act.put, List.setIfInBounds_toArray, List.set_cons_zero, List.set_cons_succ, i64_w, i32_w]
        clear hK K
        repeat (first | ((with_reducible refine gate_p ?_); refine run_p (v := ?_) rfl rfl (Or.inl ⟨by rfl, ?_⟩) (a' := ?_) ?_ ?_; rotate_left; (· (intro w'; first | (go_simp; with_reducible rfl) | (go_simp; done))); rotate_left; (· first | (simp only [Act.put, List.setIfInBounds_toArray, List.set_cons_zero, List.set_cons_succ, i64_w, i32_w]; rfl) | simp only [Act.put, List.setIfInBounds_toArray, List.set_cons_zero, List.set_cons_succ, i64_w, i32_w])) | ((with_reducible refine gate_t ?_); refine run_t (v := ?_) rfl rfl hHeld (Or.inl ⟨by rfl, ?_⟩) (a' := ?_) ?_ ?_; rotate_left; (· (intro w' hS_; first | (go_simp; with_reducible rfl) | (go_simp; done))); rotate_left; (· first | (simp only [Act.put, List.setIfInBounds_toArray, List.set_cons_zero, List.set_cons_succ, i64_w, i32_w]; rfl) | simp only [Act.put, List.setIfInBounds_toArray, List.set_cons_zero, List.set_cons_succ, i64_w, i32_w])))
        refine run_d rfl (fun K hK => ?_)
        refine stp_set (by rfl) rfl rfl HS 1 2 (cs' := #[.int .i64 d, .int .i64 n, (.slice A_y' y'.length c_y')]) rfl rfl rfl (by kernel_rfl) rfl rfl ?_
        clear HS
        intro w1 HS
        simp only [List.set_cons_zero, List.set_cons_succ] at HS
        refine goD hK rfl ?_
        clear hK K
        refine run_done ?_
        clear hHeld
        go_wp2
        have n_ := Aside0.mk (HS.out.sel [1, 2, 3, 4] (by decide)); clear HS; have HS := n_; clear n_; simp only [List.filterMap_cons, List.filterMap_nil, List.getElem?_cons_zero, List.getElem?_cons_succ] at HS
        go_roundw
        case rel => exact ⟨i + 1, A_y', c_y', y', by omega, by go_num, ⟨by rw [Ny'.out, HN.out, if_pos (by unfold ofLen; rw [HP.out]; simp), HY.out]⟩, HS⟩
        case measure => simp [intOf]; omega
      · have HP := Aside0.mk hp
        have hpb : ((t.1.size : Int) == k) = false := by simpa using hp
        clear hp
        have f1_ := HS.out.c 3 2 (v := .slice (some ad_A) l.length c) rfl rfl
        have f2_ := HS.out.old H0t.out
        go_wp2
        go_roundw
        case rel => exact ⟨i + 1, B, b, z, by omega, by go_num, ⟨by rw [HN.out, if_neg (by unfold ofLen; simp [HP.out]), List.append_nil, HY.out]⟩, HS⟩
        case measure => simp [intOf]; omega
    · obtain rfl : i = l.length := by omega
      have f1_ := HS.out.c 3 2 (v := .slice A l.length c) rfl rfl
      have f2_ := HS.out.c 0 0 (v := .int .i64 d) rfl rfl
      have f3_ := HS.out.c 0 1 (v := .int .i64 n) rfl rfl
      have f4_ := HS.out.c 0 2 (v := .slice B z.length b) rfl rfl
      go_wp2_with (first | ((with_reducible refine gate_store (t := 32) (p := 4) rfl ?_); refine wpList_stp (fun K hK => ?_); refine stp_set (by rfl) rfl rfl HS 2 0 (cs' := #[.int .i64 d, .int .i64 n, .slice B z.length b]) rfl rfl rfl (by kernel_rfl) rfl rfl ?_; clear HS f1_ f2_ f3_ f4_; intro w1 HS; simp only [List.set_cons_zero, List.set_cons_succ] at HS; refine hK _ _ ?_; clear hK K))
      refine bodyPost_ret (results_cell_row rfl _ _ g_r 32 #[.int .i64 d, .int .i64 n, .slice B z.length b] (0, 0) _ rfl (HS.out.at (i := 2) rfl) Try.underlying32 rfl (by kernel_rfl)) rfl ?_
      rw [List.take_length] at HY
      obtain rfl := HY.out
      have n_ := Aside0.mk (HS.out.sel [1] (by decide)); clear HS; have HS := n_; clear n_; simp only [List.filterMap_cons, List.filterMap_nil, List.getElem?_cons_zero, List.getElem?_cons_succ] at HS
      exact ⟨B, b, rfl, HS.out⟩
set_option maxHeartbeats 4000000 in
theorem implPartOf (d n : Int) (A : Option Addr) (c : Nat) (l : Ts) (k : Int) (w : World) (hr : KT.C w A l.length l) (hc : l.length ≤ c) (hb : bnd l = true) :
    Calls Try.prog 48 #[.agg #[.int .i64 d, .int .i64 n, .slice A l.length c], .int .i64 k] w (RetS w (partR d n l k)) := by
  have HR := Aside0.mk hr
  have HB := Aside0.mk hb
  have HS := Aside0.mk (Sep.refl w)
  clear hr hb
  unfold partR
  cases h : isS d n l with
  | false =>
    go_enter Try.func48, Try.ntmps48
    go_wp2_with (first | ((with_reducible refine gate_dst (N := 2) rfl ?_); refine wpList_stp (fun K hK => ?_); refine stp_box (by rfl) HS (cs := #[.int .i64 d, .int .i64 n, .slice A l.length c]) (t := 32) (by first | (go_simp; done) | (go_simp; rfl)) ?_; clear HS; intro g_x w1 hg_x HS; refine hK _ _ ?_; clear hK K) | ((with_reducible refine gate_dst (N := 3) rfl ?_); refine wpList_stp (fun K hK => ?_); refine stp_box (by rfl) HS (cs := #[(.int .i64 k)]) (t := 2) (by first | (go_simp; done) | (go_simp; rfl)) ?_; clear HS; intro g_q w1 hg_q HS; refine hK _ _ ?_; clear hK K) | ((with_reducible refine gate_dst (N := 4) rfl ?_); refine wpList_stp (fun K hK => ?_); refine stp_box (by rfl) HS (cs := #[(.int .i64 0), (.int .i64 0), (.slice none 0 0)]) (t := 32) (by first | (go_simp; done) | (go_simp; rfl)) ?_; clear HS; intro g_r w1 hg_r HS; refine hK _ _ ?_; clear hK K; have f1_ := HS.out.c 2 0 (v := .int .i64 d) rfl rfl; have f2_ := HS.out.c 2 1 (v := .int .i64 n) rfl rfl; have f3_ := HS.out.c 2 2 (v := .slice A l.length c) rfl rfl) | (go_at_call 42; refine (implIs d n A c l _ (HS.out.oldC HR.out) hc HB.out).mono ?_; rintro e_ w1 ⟨rfl, hb⟩; have n_ := Aside0.mk (HS.out.call hb); clear HS f1_ f2_ f3_ hb; have HS := n_; clear n_) | ((with_reducible refine gate_store (t := 32) (p := 4) rfl ?_); refine wpList_stp (fun K hK => ?_); refine stp_set (by rfl) rfl rfl HS 0 0 (cs' := #[(.int .i64 0), (.int .i64 0), (.slice none 0 0)]) rfl rfl rfl (by kernel_rfl) rfl rfl ?_; clear HS; intro w1 HS; simp only [List.set_cons_zero, List.set_cons_succ] at HS; refine hK _ _ ?_; clear hK K))
    refine bodyPost_ret (results_cell_tmp_row rfl _ _ g_r 32 #[(.int .i64 0), (.int .i64 0), (.slice none 0 0)] (0, 0) _ rfl (HS.out.at (i := 0) rfl) Try.underlying32 rfl (by kernel_rfl)) rfl ?_
    have n_ := Aside0.mk (HS.out.sel [] (by decide)); clear HS; have HS := n_; clear n_; simp only [List.filterMap_cons, List.filterMap_nil, List.getElem?_cons_zero, List.getElem?_cons_succ] at HS
    exact ⟨none, 0, rfl, nilS HS.out⟩
  | true =>
    cases hi : inR k 0 5 with
    | false =>
      go_enter Try.func48, Try.ntmps48
      go_wp2_with (first | ((with_reducible refine gate_dst (N := 2) rfl ?_); refine wpList_stp (fun K hK => ?_); refine stp_box (by rfl) HS (cs := #[.int .i64 d, .int .i64 n, .slice A l.length c]) (t := 32) (by first | (go_simp; done) | (go_simp; rfl)) ?_; clear HS; intro g_x w1 hg_x HS; refine hK _ _ ?_; clear hK K) | ((with_reducible refine gate_dst (N := 3) rfl ?_); refine wpList_stp (fun K hK => ?_); refine stp_box (by rfl) HS (cs := #[(.int .i64 k)]) (t := 2) (by first | (go_simp; done) | (go_simp; rfl)) ?_; clear HS; intro g_q w1 hg_q HS; refine hK _ _ ?_; clear hK K) | ((with_reducible refine gate_dst (N := 4) rfl ?_); refine wpList_stp (fun K hK => ?_); refine stp_box (by rfl) HS (cs := #[(.int .i64 0), (.int .i64 0), (.slice none 0 0)]) (t := 32) (by first | (go_simp; done) | (go_simp; rfl)) ?_; clear HS; intro g_r w1 hg_r HS; refine hK _ _ ?_; clear hK K; have f1_ := HS.out.c 2 0 (v := .int .i64 d) rfl rfl; have f2_ := HS.out.c 2 1 (v := .int .i64 n) rfl rfl; have f3_ := HS.out.c 2 2 (v := .slice A l.length c) rfl rfl) | (go_at_call 42; refine (implIs d n A c l _ (HS.out.oldC HR.out) hc HB.out).mono ?_; rintro e_ w1 ⟨rfl, hb⟩; have n_ := Aside0.mk (HS.out.call hb); clear HS f1_ f2_ f3_ hb; have HS := n_; clear n_; have f1_ := HS.out.c 1 0 (v := (.int .i64 k)) rfl rfl) | (go_at_call 102; refine (implInB k 0 5 _).mono ?_; rintro e_ w1 ⟨rfl, hb⟩; have n_ := Aside0.mk (HS.out.call hb); clear HS f1_ hb; have HS := n_; clear n_) | ((with_reducible refine gate_store (t := 32) (p := 4) rfl ?_); refine wpList_stp (fun K hK => ?_); refine stp_set (by rfl) rfl rfl HS 0 0 (cs' := #[(.int .i64 0), (.int .i64 0), (.slice none 0 0)]) rfl rfl rfl (by kernel_rfl) rfl rfl ?_; clear HS; intro w1 HS; simp only [List.set_cons_zero, List.set_cons_succ] at HS; refine hK _ _ ?_; clear hK K))
      refine bodyPost_ret (results_cell_tmp_row rfl _ _ g_r 32 #[(.int .i64 0), (.int .i64 0), (.slice none 0 0)] (0, 0) _ rfl (HS.out.at (i := 0) rfl) Try.underlying32 rfl (by kernel_rfl)) rfl ?_
      have n_ := Aside0.mk (HS.out.sel [] (by decide)); clear HS; have HS := n_; clear n_; simp only [List.filterMap_cons, List.filterMap_nil, List.getElem?_cons_zero, List.getElem?_cons_succ] at HS
      exact ⟨none, 0, rfl, nilS HS.out⟩
    | true =>
      go_enter Try.func48, Try.ntmps48
      go_wp2_with (first | ((with_reducible refine gate_dst (N := 2) rfl ?_); refine wpList_stp (fun K hK => ?_); refine stp_box (by rfl) HS (cs := #[.int .i64 d, .int .i64 n, .slice A l.length c]) (t := 32) (by first | (go_simp; done) | (go_simp; rfl)) ?_; clear HS; intro g_x w1 hg_x HS; refine hK _ _ ?_; clear hK K) | ((with_reducible refine gate_dst (N := 3) rfl ?_); refine wpList_stp (fun K hK => ?_); refine stp_box (by rfl) HS (cs := #[(.int .i64 k)]) (t := 2) (by first | (go_simp; done) | (go_simp; rfl)) ?_; clear HS; intro g_q w1 hg_q HS; refine hK _ _ ?_; clear hK K) | ((with_reducible refine gate_dst (N := 4) rfl ?_); refine wpList_stp (fun K hK => ?_); refine stp_box (by rfl) HS (cs := #[(.int .i64 0), (.int .i64 0), (.slice none 0 0)]) (t := 32) (by first | (go_simp; done) | (go_simp; rfl)) ?_; clear HS; intro g_r w1 hg_r HS; refine hK _ _ ?_; clear hK K; have f1_ := HS.out.c 2 0 (v := .int .i64 d) rfl rfl; have f2_ := HS.out.c 2 1 (v := .int .i64 n) rfl rfl; have f3_ := HS.out.c 2 2 (v := .slice A l.length c) rfl rfl) | (go_at_call 42; refine (implIs d n A c l _ (HS.out.oldC HR.out) hc HB.out).mono ?_; rintro e_ w1 ⟨rfl, hb⟩; have n_ := Aside0.mk (HS.out.call hb); clear HS f1_ f2_ f3_ hb; have HS := n_; clear n_; have f1_ := HS.out.c 1 0 (v := (.int .i64 k)) rfl rfl) | (go_at_call 102; refine (implInB k 0 5 _).mono ?_; rintro e_ w1 ⟨rfl, hb⟩; have n_ := Aside0.mk (HS.out.call hb); clear HS f1_ hb; have HS := n_; clear n_; have f1_ := HS.out.c 2 0 (v := .int .i64 d) rfl rfl; have f2_ := HS.out.c 2 1 (v := .int .i64 n) rfl rfl; have f3_ := HS.out.c 2 2 (v := .slice A l.length c) rfl rfl) | (go_at_call 118; refine (implChosenPart d n A c l k g_q _ (HS.out.oldC HR.out) HB.out (HS.out.at (i := 1) rfl)).mono ?_; rintro e_ w1 ⟨B, b, rfl, hs⟩; have n_ := Aside0.mk (HS.out.new hs); clear HS f1_ f2_ f3_ hs; have HS := n_; clear n_; simp only [List.cons_append, List.nil_append] at HS) | ((with_reducible refine gate_store (t := 32) (p := 4) rfl ?_); refine wpList_stp (fun K hK => ?_); refine stp_set (by rfl) rfl rfl HS 1 0 (cs' := #[.int .i64 d, .int .i64 n, .slice B (l.filter (ofLen k)).length b]) rfl rfl rfl (by kernel_rfl) rfl rfl ?_; clear HS; intro w1 HS; simp only [List.set_cons_zero, List.set_cons_succ] at HS; refine hK _ _ ?_; clear hK K))
      refine bodyPost_ret (results_cell_tmp_row rfl _ _ g_r 32 #[.int .i64 d, .int .i64 n, .slice B (l.filter (ofLen k)).length b] (0, 0) _ rfl (HS.out.at (i := 1) rfl) Try.underlying32 rfl (by kernel_rfl)) rfl ?_
      have n_ := Aside0.mk (HS.out.sel [0] (by decide)); clear HS; have HS := n_; clear n_; simp only [List.filterMap_cons, List.filterMap_nil, List.getElem?_cons_zero, List.getElem?_cons_succ] at HS
      exact ⟨B, b, rfl, HS.out⟩
set_option maxHeartbeats 4000000 in
theorem specPartOf (d n : Int) (A : Option Addr) (c : Nat) (l : Ts) (k : Int) (w : World) (hr : KT.C w A l.length l) (hc : l.length ≤ c) (hb : bnd l = true) :
    Calls Try.prog 47 #[.agg #[.int .i64 d, .int .i64 n, .slice A l.length c], .int .i64 k] w (RetS w (partR d n l k)) := by
  have HR := Aside0.mk hr
  have HB := Aside0.mk hb
  have HS := Aside0.mk (Sep.refl w)
  clear hr hb
  unfold partR
  cases h : isS d n l with
  | false =>
    go_enter Try.func47, Try.ntmps47
    go_wp2_with (first | ((with_reducible refine gate_dst (N := 2) rfl ?_); refine wpList_stp (fun K hK => ?_); refine stp_box (by rfl) HS (cs := #[.int .i64 d, .int .i64 n, .slice A l.length c]) (t := 32) (by first | (go_simp; done) | (go_simp; rfl)) ?_; clear HS; intro g_x w1 hg_x HS; refine hK _ _ ?_; clear hK K) | ((with_reducible refine gate_dst (N := 4) rfl ?_); refine wpList_stp (fun K hK => ?_); refine stp_box (by rfl) HS (cs := #[(.int .i64 0), (.int .i64 0), (.slice none 0 0)]) (t := 32) (by first | (go_simp; done) | (go_simp; rfl)) ?_; clear HS; intro g_r w1 hg_r HS; refine hK _ _ ?_; clear hK K; have f1_ := HS.out.c 1 0 (v := .int .i64 d) rfl rfl; have f2_ := HS.out.c 1 1 (v := .int .i64 n) rfl rfl; have f3_ := HS.out.c 1 2 (v := .slice A l.length c) rfl rfl) | (go_at_call 109; refine (specIs d n A c l _ (HS.out.oldC HR.out) hc HB.out).mono ?_; rintro e_ w1 ⟨rfl, hb⟩; have n_ := Aside0.mk (HS.out.call hb); clear HS f1_ f2_ f3_ hb; have HS := n_; clear n_) | ((with_reducible refine gate_store (t := 32) (p := 4) rfl ?_); refine wpList_stp (fun K hK => ?_); refine stp_set (by rfl) rfl rfl HS 0 0 (cs' := #[(.int .i64 0), (.int .i64 0), (.slice none 0 0)]) rfl rfl rfl (by kernel_rfl) rfl rfl ?_; clear HS; intro w1 HS; simp only [List.set_cons_zero, List.set_cons_succ] at HS; refine hK _ _ ?_; clear hK K))
    refine bodyPost_ret (results_cell_tmp_row rfl _ _ g_r 32 #[(.int .i64 0), (.int .i64 0), (.slice none 0 0)] (0, 0) _ rfl (HS.out.at (i := 0) rfl) Try.underlying32 rfl (by kernel_rfl)) rfl ?_
    have n_ := Aside0.mk (HS.out.sel [] (by decide)); clear HS; have HS := n_; clear n_; simp only [List.filterMap_cons, List.filterMap_nil, List.getElem?_cons_zero, List.getElem?_cons_succ] at HS
    exact ⟨none, 0, rfl, nilS HS.out⟩
  | true =>
    cases hi : inR k 0 5 with
    | false =>
      go_enter Try.func47, Try.ntmps47
      go_wp2_with (first | ((with_reducible refine gate_dst (N := 2) rfl ?_); refine wpList_stp (fun K hK => ?_); refine stp_box (by rfl) HS (cs := #[.int .i64 d, .int .i64 n, .slice A l.length c]) (t := 32) (by first | (go_simp; done) | (go_simp; rfl)) ?_; clear HS; intro g_x w1 hg_x HS; refine hK _ _ ?_; clear hK K) | ((with_reducible refine gate_dst (N := 4) rfl ?_); refine wpList_stp (fun K hK => ?_); refine stp_box (by rfl) HS (cs := #[(.int .i64 0), (.int .i64 0), (.slice none 0 0)]) (t := 32) (by first | (go_simp; done) | (go_simp; rfl)) ?_; clear HS; intro g_r w1 hg_r HS; refine hK _ _ ?_; clear hK K; have f1_ := HS.out.c 1 0 (v := .int .i64 d) rfl rfl; have f2_ := HS.out.c 1 1 (v := .int .i64 n) rfl rfl; have f3_ := HS.out.c 1 2 (v := .slice A l.length c) rfl rfl) | (go_at_call 109; refine (specIs d n A c l _ (HS.out.oldC HR.out) hc HB.out).mono ?_; rintro e_ w1 ⟨rfl, hb⟩; have n_ := Aside0.mk (HS.out.call hb); clear HS f1_ f2_ f3_ hb; have HS := n_; clear n_) | (go_at_call 99; refine (specInB k 0 5 _).mono ?_; rintro e_ w1 ⟨rfl, hb⟩; have n_ := Aside0.mk (HS.out.call hb); clear HS hb; have HS := n_; clear n_) | ((with_reducible refine gate_store (t := 32) (p := 4) rfl ?_); refine wpList_stp (fun K hK => ?_); refine stp_set (by rfl) rfl rfl HS 0 0 (cs' := #[(.int .i64 0), (.int .i64 0), (.slice none 0 0)]) rfl rfl rfl (by kernel_rfl) rfl rfl ?_; clear HS; intro w1 HS; simp only [List.set_cons_zero, List.set_cons_succ] at HS; refine hK _ _ ?_; clear hK K))
      refine bodyPost_ret (results_cell_tmp_row rfl _ _ g_r 32 #[(.int .i64 0), (.int .i64 0), (.slice none 0 0)] (0, 0) _ rfl (HS.out.at (i := 0) rfl) Try.underlying32 rfl (by kernel_rfl)) rfl ?_
      have n_ := Aside0.mk (HS.out.sel [] (by decide)); clear HS; have HS := n_; clear n_; simp only [List.filterMap_cons, List.filterMap_nil, List.getElem?_cons_zero, List.getElem?_cons_succ] at HS
      exact ⟨none, 0, rfl, nilS HS.out⟩
    | true =>
      go_enter Try.func47, Try.ntmps47
      go_wp2_with (first | ((with_reducible refine gate_dst (N := 2) rfl ?_); refine wpList_stp (fun K hK => ?_); refine stp_box (by rfl) HS (cs := #[.int .i64 d, .int .i64 n, .slice A l.length c]) (t := 32) (by first | (go_simp; done) | (go_simp; rfl)) ?_; clear HS; intro g_x w1 hg_x HS; refine hK _ _ ?_; clear hK K) | ((with_reducible refine gate_dst (N := 4) rfl ?_); refine wpList_stp (fun K hK => ?_); refine stp_box (by rfl) HS (cs := #[(.int .i64 0), (.int .i64 0), (.slice none 0 0)]) (t := 32) (by first | (go_simp; done) | (go_simp; rfl)) ?_; clear HS; intro g_r w1 hg_r HS; refine hK _ _ ?_; clear hK K; have f1_ := HS.out.c 1 0 (v := .int .i64 d) rfl rfl; have f2_ := HS.out.c 1 1 (v := .int .i64 n) rfl rfl; have f3_ := HS.out.c 1 2 (v := .slice A l.length c) rfl rfl) | (go_at_call 109; refine (specIs d n A c l _ (HS.out.oldC HR.out) hc HB.out).mono ?_; rintro e_ w1 ⟨rfl, hb⟩; have n_ := Aside0.mk (HS.out.call hb); clear HS f1_ f2_ f3_ hb; have HS := n_; clear n_) | (go_at_call 99; refine (specInB k 0 5 _).mono ?_; rintro e_ w1 ⟨rfl, hb⟩; have n_ := Aside0.mk (HS.out.call hb); clear HS hb; have HS := n_; clear n_; have f1_ := HS.out.c 1 0 (v := .int .i64 d) rfl rfl; have f2_ := HS.out.c 1 1 (v := .int .i64 n) rfl rfl; have f3_ := HS.out.c 1 2 (v := .slice A l.length c) rfl rfl) | (go_at_call 120; refine (specPart d n A c l k _ (HS.out.oldC HR.out) HB.out).mono ?_; rintro e_ w1 ⟨B, b, rfl, hs⟩; have n_ := Aside0.mk (HS.out.new hs); clear HS f1_ f2_ f3_ hs; have HS := n_; clear n_; simp only [List.cons_append, List.nil_append] at HS) | ((with_reducible refine gate_store (t := 32) (p := 4) rfl ?_); refine wpList_stp (fun K hK => ?_); refine stp_set (by rfl) rfl rfl HS 1 0 (cs' := #[.int .i64 d, .int .i64 n, .slice B (l.filter (ofLen k)).length b]) rfl rfl rfl (by kernel_rfl) rfl rfl ?_; clear HS; intro w1 HS; simp only [List.set_cons_zero, List.set_cons_succ] at HS; refine hK _ _ ?_; clear hK K))
      refine bodyPost_ret (results_cell_tmp_row rfl _ _ g_r 32 #[.int .i64 d, .int .i64 n, .slice B (l.filter (ofLen k)).length b] (0, 0) _ rfl (HS.out.at (i := 1) rfl) Try.underlying32 rfl (by kernel_rfl)) rfl ?_
      have n_ := Aside0.mk (HS.out.sel [0] (by decide)); clear HS; have HS := n_; clear n_; simp only [List.filterMap_cons, List.filterMap_nil, List.getElem?_cons_zero, List.getElem?_cons_succ] at HS
      exact ⟨B, b, rfl, HS.out⟩
end Go.Proofs.Ytcklblagklojhaa.H

