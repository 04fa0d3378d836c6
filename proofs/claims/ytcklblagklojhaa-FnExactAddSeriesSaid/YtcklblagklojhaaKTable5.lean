/- Tables: told, a series' table. Conditions: the bounds that stand in each statement. -/
import Derived.Test.YtcklblagklojhaaKTable4
namespace Go.Proofs.Ytcklblagklojhaa.M
/-- What is returned: letters, level, terms, code. -/
abbrev Rs := Int × Int × Ts × Int
def noS (c : Int) : Rs := (0, 0, [], c)
def toldR (d n : Nat) (F : Tb) : Rs := if F.2 = true then noS 3 else ((d : Int), (n : Int), tabT d n F.1, 0)
end Go.Proofs.Ytcklblagklojhaa.M
namespace Go.Proofs.Ytcklblagklojhaa.H
open Go.RowKit Go.Proofs.YtcklblagklojhaaW.PrintWords Go.Proofs.YtcklblagklojhaaW.PrintLast Go.Proofs.YtcklblagklojhaaW.PrintMore Go.Proofs.Ytcklblagklojhaa.M
attribute [local go_sem] max2_int min2_int max_two min_two max_three min_three max_four min_four
set_option linter.unusedVariables false
set_option linter.unusedSimpArgs false
set_option maxRecDepth 100000
theorem results_cell_tmp_row {P : Program} {fn : Func} {p u : Tmp} {ty : TypeId} (h : fn.results = #[.cell p ty, .tmp u]) (tmps : Array Value) (w : World) (g : Nat) (t : TypeId) (cs : Array Value) (fr : Nat × Nat) (d : TypeDesc)
    (hp : tmps.getD p undef = .pointer (some ⟨g, 0, none⟩)) (hg : w.heap[g]? = some (.cells cs t fr))
    (hu : P.underlying ty = some d) (hd : (match d with | .struct _ | .array _ _ => true | _ => false) = true) (hi : (P.info? ty).map (·.size) = some cs.size) :
    (results fn tmps).run P w = .ok (.tuple #[.agg cs, tmps.getD u undef]) w := by
  have hp' : tmps[p]?.getD undef = .pointer (some ⟨g, 0, none⟩) := by simpa using hp
  simp [results, h, hp', asAddr, Sem.run_bind, run_loadVar_row w g t ty cs fr d hg hu hd hi]
/-- A series and a code are returned, the terms in a row of one's own. -/
def RetS (w : World) (r : Rs) (e : Ending) (w' : World) : Prop := ∃ A c, e = .returned (.tuple #[.agg #[.int .i64 r.1, .int .i64 r.2.1, .slice A r.2.2.1.length c], .int .i64 r.2.2.2]) ∧ Sep w w' [rowT A c r.2.2.1]
set_option maxHeartbeats 4000000 in
theorem implTold (g v d n : Nat) (bad : Bool) (f : ByteArray → Fr) (w : World) (hl : lev d n = true) (ht : (tS g v d n (nW d n) bad).I w) (hv : (tV v d n f).I w) :
    Calls Try.prog 116 #[.pointer (some ⟨g, 0, none⟩)] w (RetS w (toldR d n (f, bad))) := by
  have HT := Aside0.mk ht
  have HV := Aside0.mk hv
  have HL := Aside0.mk hl
  have HS := Aside0.mk (Sep.refl w)
  have CS := fun W h1 h2 => implSeries g v d n bad f W HL.out h1 h2
  have HC := Aside0.mk CS
  obtain ⟨N, hN⟩ : ∃ N, N = nW d n := ⟨_, rfl⟩
  rw [← hN] at HC HT
  clear ht hv hl hN CS
  cases bad with
  | true =>
    go_enter Try.func116, Try.ntmps116
    go_wp2_with (first | ((with_reducible refine gate_dst (N := 2) rfl ?_); refine wpList_stp (fun K hK => ?_); refine stp_box (by rfl) HS (cs := #[(.int .i64 0), (.int .i64 0), (.slice none 0 0)]) (t := 32) (by first | (go_simp; done) | (go_simp; rfl)) ?_; clear HS; intro g_r w1 hg_r HS; refine hK _ _ ?_; clear hK K; have f1_ := bx_c (HS.out.oldI HT.out) 3 (v := .bool true) rfl) | ((with_reducible refine gate_store (t := 32) (p := 2) rfl ?_); refine wpList_stp (fun K hK => ?_); refine stp_set (by rfl) rfl rfl HS 0 0 (cs' := #[(.int .i64 0), (.int .i64 0), (.slice none 0 0)]) rfl rfl rfl (by kernel_rfl) rfl rfl ?_; clear HS f1_; intro w1 HS; simp only [List.set_cons_zero, List.set_cons_succ] at HS; refine hK _ _ ?_; clear hK K))
    refine bodyPost_ret (results_cell_tmp_row rfl _ _ g_r 32 #[(.int .i64 0), (.int .i64 0), (.slice none 0 0)] (0, 0) _ rfl (HS.out.at (i := 0) rfl) Try.underlying32 rfl (by kernel_rfl)) rfl ?_
    have n_ := Aside0.mk (HS.out.nil (d := KT) (hE := rfl) (e := 77))
    exact ⟨none, 0, rfl, n_.out.sel [0] (by decide)⟩
  | false =>
    go_enter Try.func116, Try.ntmps116
    go_wp2_with (first | ((with_reducible refine gate_dst (N := 2) rfl ?_); refine wpList_stp (fun K hK => ?_); refine stp_box (by rfl) HS (cs := #[(.int .i64 0), (.int .i64 0), (.slice none 0 0)]) (t := 32) (by first | (go_simp; done) | (go_simp; rfl)) ?_; clear HS; intro g_r w1 hg_r HS; refine hK _ _ ?_; clear hK K; have f1_ := bx_c (HS.out.oldI HT.out) 3 (v := .bool false) rfl) | (go_at_call 185; refine (HC.out _ (HS.out.oldI HT.out) (HS.out.oldI HV.out)).mono ?_; rintro e_ w1 ⟨A, c, rfl, hs⟩; have n_ := Aside0.mk (HS.out.new hs); clear HS f1_ hs; have HS := n_; clear n_; simp only [List.cons_append, List.nil_append] at HS) | ((with_reducible refine gate_store (t := 32) (p := 2) rfl ?_); refine wpList_stp (fun K hK => ?_); refine stp_set (by rfl) rfl rfl HS 1 0 (cs' := #[.int .i64 (d : Int), .int .i64 (n : Int), .slice A (tabT d n f).length c]) rfl rfl rfl (by kernel_rfl) rfl rfl ?_; clear HS; intro w1 HS; simp only [List.set_cons_zero, List.set_cons_succ] at HS; refine hK _ _ ?_; clear hK K))
    refine bodyPost_ret (results_cell_tmp_row rfl _ _ g_r 32 #[.int .i64 (d : Int), .int .i64 (n : Int), .slice A (tabT d n f).length c] (0, 0) _ rfl (HS.out.at (i := 1) rfl) Try.underlying32 rfl (by kernel_rfl)) rfl ?_
    have n_ := Aside0.mk (HS.out.sel [0] (by decide)); clear HS; have HS := n_; clear n_; simp only [List.filterMap_cons, List.filterMap_nil, List.getElem?_cons_zero, List.getElem?_cons_succ] at HS
    exact ⟨A, c, rfl, HS.out⟩
set_option maxHeartbeats 8000000 in
theorem implOpen (d n : Nat) (A : Option Addr) (c : Nat) (l : Ts) (w : World) (hl : lev d n = true) (hr : KT.C w A l.length l) (hts : isTs d n l = true) :
    Calls Try.prog 126 #[.agg #[.int .i64 (d : Int), .int .i64 (n : Int), .slice A l.length c]] w fun e w' => ∃ g v, e = .returned (.pointer (some ⟨g, 0, none⟩)) ∧ Sep w w' [tS g v d n (nW d n) false, tV v d n (co l)] := by
  obtain ⟨hd1, hd3, hn1, hn5⟩ := lev_bd hl
  have hll : l.length ≤ 10000 := Nat.le_trans (ts_length_le (by omega) hts) (ahead_le hd3 (by omega))
  have HR := Aside0.mk hr
  have HX := Aside0.mk hts
  have HL := Aside0.mk hl
  have HS := Aside0.mk (Sep.refl w)
  have HN := Aside0.mk (fun W => implNew d n HL.out W)
  obtain ⟨N, hN⟩ : ∃ N, N = nW d n := ⟨_, rfl⟩
  rw [← hN] at HN
  rw [← hN]
  have HNW := Aside0.mk hN
  clear hr hts hl hN
  go_enter Try.func126, Try.ntmps126
  go_wp2_with (first | ((with_reducible refine gate_dst (N := 1) rfl ?_); refine wpList_stp (fun K hK => ?_); refine stp_box (by rfl) HS (cs := #[.int .i64 (d : Int), .int .i64 (n : Int), .slice A l.length c]) (t := 32) (by first | (go_simp; done) | (go_simp; rfl)) ?_; clear HS; intro g_x w1 hg_x HS; refine hK _ _ ?_; clear hK K; have f1_ := HS.out.c 0 0 (v := .int .i64 (d : Int)) rfl rfl; have f2_ := HS.out.c 0 1 (v := .int .i64 (n : Int)) rfl rfl) | (go_at_call 114; refine (HN.out _).mono ?_; rintro e_ w1 ⟨g', v', rfl, hs⟩; have n_ := Aside0.mk (HS.out.new hs); clear HS f1_ f2_ hs; have HS := n_; clear n_; simp only [List.cons_append, List.nil_append] at HS; have f1_ := HS.out.c 2 2 (v := .slice A l.length c) rfl rfl))
  rw [show (fun _ => ((0, 1) : Fr)) = co (l.take 0) from funext fun u => by rw [List.take_zero]; rfl] at HS
  go_loopw [14] (fun q w' => ∃ k : Nat, k ≤ l.length ∧ q = .int .i64 (k : Int) ∧ Aside0 (Mod w w' No [bx g' 106 #[.int .i64 (d : Int), .int .i64 (n : Int), .slice (some ⟨v', 0, none⟩) N N, .bool false], tV v' d n (co (l.take k)), bx g_x 32 #[.int .i64 (d : Int), .int .i64 (n : Int), .slice A l.length c]])) (fun q _ => l.length - (intOf q).toNat)
  case atStart => exact ⟨0, by omega, rfl, HS⟩
  case round =>
    clear HS
    obtain ⟨k, hk, rfl, HS⟩ := hrel
    by_cases hlt : k < l.length
    · skip
      obtain ⟨ad_A, ea_, h0_, h1_, h2_⟩ := tm_at HR.out k (hlt)
      cases ea_
      obtain ⟨t_, ht_⟩ : ∃ t_, t_ = l.getD k zT := ⟨_, rfl⟩
      rw [← ht_] at h0_ h1_ h2_
      have Et_ := Aside0.mk ht_; have H0t_ := Aside0.mk h0_; have H1t_ := Aside0.mk h1_; have H2t_ := Aside0.mk h2_
      clear ht_ h0_ h1_ h2_
      have htm : isTm d n t_ = true := (isTs_iff.1 HX.out).1 _ (by rw [Et_.out, getD_lt l zT k hlt]; exact List.getElem_mem hlt)
      obtain ⟨hz1, hz2, hz3, hz4⟩ := isTm_fr htm
      have HZ3 := Aside0.mk hz3
      have hs5 : t_.1.size ≤ 5 := by omega
      have hq2 : num d t_.1 < nW d n := num_lt' hz3 hz4
      rw [← HNW.out] at hq2
      obtain ⟨j, hj⟩ : ∃ j, num d t_.1 = j := ⟨_, rfl⟩
      have CN := fun W => (hj ▸ implNumber d t_.1 W hd1 hd3 HZ3.out hs5 : Calls Try.prog 138 #[.int .i64 (d : Int), .string t_.1] W fun e w' => e = .returned (.int .i64 ((j : Nat) : Int)) ∧ Below W.heap.size W w')
      rw [hj] at hq2
      have HCN := Aside0.mk CN
      have HJ := Aside0.mk hj
      have HTK := Aside0.mk (show upd (co (l.take k)) t_.1 t_.2 = co (l.take (k + 1)) by rw [co_take_succ HX.out hlt, Et_.out])
      clear CN hj htm hz1 hz2 hz3
      have hq0 : (0 : Int) ≤ j := by omega
      have hq1 : (j : Int) < N := by omega
      clear hq2
      have f1_ := HS.out.old H0t_.out
      have f2_ := HS.out.old H1t_.out
      have f3_ := HS.out.old H2t_.out
      go_wp2_with (first | ((with_reducible refine gate_dst (N := 5) rfl ?_); refine wpList_stp (fun K hK => ?_); refine stp_box (by rfl) HS (cs := #[(.string ⟨#[]⟩), (.int .i64 0), (.int .i64 0)]) (t := 77) (by first | (go_simp; done) | (go_simp; rfl)) ?_; clear HS f1_ f2_ f3_; intro g_y w1 hg_y HS; refine hK _ _ ?_; clear hK K) | ((with_reducible refine gate_store (t := 77) (p := 5) rfl ?_); refine wpList_stp (fun K hK => ?_); refine stp_set (by rfl) rfl rfl HS 0 0 (cs' := #[.string t_.1, .int .i64 t_.2.1, .int .i64 t_.2.2]) rfl rfl rfl (by kernel_rfl) rfl rfl ?_; clear HS; intro w1 HS; simp only [List.set_cons_zero, List.set_cons_succ] at HS; refine hK _ _ ?_; clear hK K))
      have n_ := Aside0.mk HS.out.drew
      clear HS
      have HS := n_
      clear n_
      refine plan_start (.p 0 (.p 1 (.p 2 (.p 4 (.p 5 (.p 6 (.p 8 (.p 11 (.t 3 (.t 7 (.t 9 (.t 12 (.e 10 (.p 13 (.d 14 .done))))))))))))))) (fun w' => w'.cell? ⟨g', 2, none⟩ = some (.slice (some ⟨v', 0, none⟩) N N) ∧ w'.cell? ⟨g', 0, none⟩ = some (.int .i64 (d : Int)) ∧ w'.cell? ⟨g_y, 0, none⟩ = some (.string t_.1) ∧ w'.cell? ⟨g_y, 1, none⟩ = some (.int .i64 t_.2.1) ∧ w'.cell? ⟨g_y, 2, none⟩ = some (.int .i64 t_.2.2)) [14] (by kernel_rfl) (by kernel_rfl) (fun c_ a_ d_ v_ w_ h_ => by cases d_ <;> exact h_) ⟨HS.out.c 1 2 (v := .slice (some ⟨v', 0, none⟩) N N) rfl rfl, HS.out.c 1 0 (v := .int .i64 (d : Int)) rfl rfl, HS.out.c 0 0 (v := .string t_.1) rfl rfl, HS.out.c 0 1 (v := .int .i64 t_.2.1) rfl rfl, HS.out.c 0 2 (v := .int .i64 t_.2.2) rfl rfl⟩ (fun hHeld => ?_)
      repeat (first | ((with_reducible refine gate_p ?_); refine run_p (v := ?_) rfl rfl (Or.inl ⟨by rfl, ?_⟩) (a' := ?_) ?_ ?_; rotate_left; (· (intro w'; first | (go_simp; with_reducible rfl) | (go_simp; done))); rotate_left; (· first | (simp only [Act.put, List.setIfInBounds_toArray, List.set_cons_zero, List.set_cons_succ, i64_w, i32_w]; rfl) | simp only [Act.put, List.setIfInBounds_toArray, List.set_cons_zero, List.set_cons_succ, i64_w, i32_w])) | ((with_reducible refine gate_t ?_); refine run_t (v := ?_) rfl rfl hHeld (Or.inl ⟨by rfl, ?_⟩) (a' := ?_) ?_ ?_; rotate_left; (· (intro w' hS_; first | (go_simp; with_reducible rfl) | (go_simp; done))); rotate_left; (· first | (simp only [Act.put, List.setIfInBounds_toArray, List.set_cons_zero, List.set_cons_succ, i64_w, i32_w]; rfl) | simp only [Act.put, List.setIfInBounds_toArray, List.set_cons_zero, List.set_cons_succ, i64_w, i32_w])))
      refine run_e rfl (fun K hK => ?_)
      refine goes_ Try.func138 (by kernel_rfl) rfl #[(.int .i64 (d : Int)), (.string t_.1)] (by rfl) rfl rfl (by simp only [List.map_toArray, List.map_cons, List.map_nil]; rfl) ?_
      refine (HCN.out _).mono ?_
      rintro e_ w1 ⟨rfl, hb⟩
      refine ⟨_, rfl, ?_⟩
      have n_ := Aside0.mk (HS.out.call hb)
      clear HS hb
      have HS := n_
      clear n_
      refine goE hK ⟨HS.out.c 1 2 (v := .slice (some ⟨v', 0, none⟩) N N) rfl rfl, HS.out.c 1 0 (v := .int .i64 (d : Int)) rfl rfl, HS.out.c 0 0 (v := .string t_.1) rfl rfl, HS.out.c 0 1 (v := .int .i64 t_.2.1) rfl rfl, HS.out.c 0 2 (v := .int .i64 t_.2.2) rfl rfl⟩ (a' := ?_) ?_ (fun hHeld => ?_)
      rotate_left
      · first | (simp only [Act.put, List.setIfInBounds_toArray, List.set_cons_zero, List.set_cons_succ, i64_w, i32_w]; rfl) | simp only [Act.put, List.setIfInBounds_toArray, List.set_cons_zero, List.set_cons_succ, i64_w, i32_w]
      clear hK K
      repeat (first | ((with_reducible refine gate_p ?_); refine run_p (v := ?_) rfl rfl (Or.inl ⟨by rfl, ?_⟩) (a' := ?_) ?_ ?_; rotate_left; (· (intro w'; first | (go_simp; with_reducible rfl) | (go_simp; done))); rotate_left; (· first | (simp only [Act.put, List.setIfInBounds_toArray, List.set_cons_zero, List.set_cons_succ, i64_w, i32_w]; rfl) | simp only [Act.put, List.setIfInBounds_toArray, List.set_cons_zero, List.set_cons_succ, i64_w, i32_w])) | ((with_reducible refine gate_t ?_); refine run_t (v := ?_) rfl rfl hHeld (Or.inl ⟨by rfl, ?_⟩) (a' := ?_) ?_ ?_; rotate_left; (· (intro w' hS_; first | (go_simp; with_reducible rfl) | (go_simp; done))); rotate_left; (· first | (simp only [Act.put, List.setIfInBounds_toArray, List.set_cons_zero, List.set_cons_succ, i64_w, i32_w]; rfl) | simp only [Act.put, List.setIfInBounds_toArray, List.set_cons_zero, List.set_cons_succ, i64_w, i32_w])))
      refine run_d rfl (fun K hK => ?_)
      refine stp_put_tab (by rfl) rfl rfl HS 2 rfl t_.1 (by omega) HZ3.out hz4 HJ.out t_.2 rfl rfl (by kernel_rfl) ?_
      clear HS
      intro w1 HS
      simp only [List.set_cons_zero, List.set_cons_succ] at HS
      rw [HTK.out] at HS
      refine goD hK rfl ?_
      clear hK K
      refine run_done ?_
      clear hHeld
      go_wp2
      have n_ := Aside0.mk (HS.out.sel [1, 2, 3] (by decide)); clear HS; have HS := n_; clear n_; simp only [List.filterMap_cons, List.filterMap_nil, List.getElem?_cons_zero, List.getElem?_cons_succ] at HS
      go_roundw
      case rel => exact ⟨k + 1, by omega, by go_num, HS⟩
      case measure => simp [intOf]; omega
    · obtain rfl : k = l.length := by omega
      go_wp2
      go_ret
      have n_ := HS.out.sel [0, 1] (by decide)
      simp only [List.filterMap_cons, List.filterMap_nil, List.getElem?_cons_zero, List.getElem?_cons_succ, List.take_length] at n_
      exact ⟨g', v', rfl, n_⟩
end Go.Proofs.Ytcklblagklojhaa.H

