/- Tables: the series of a table, a series' table. Conditions: the bounds that stand in each statement. -/
import Derived.Test.YtcklblagklojhaaKTable3
import Derived.Test.YtcklblagklojhaaKLaw2
namespace Go.Proofs.Ytcklblagklojhaa.M
/-- The terms of the first k words. -/
def tabK (d n : Nat) (f : ByteArray → Fr) (k : Nat) : Ts := ((allW d n).take k).filterMap fun w => if (f w).1 = 0 then none else some (w, f w)
theorem tabK_zero (d n : Nat) (f : ByteArray → Fr) : tabK d n f 0 = [] := rfl
theorem tabK_all (d n : Nat) (f : ByteArray → Fr) : tabK d n f (allW d n).length = tabT d n f := by unfold tabK tabT; rw [List.take_length]
theorem tabK_succ (d n : Nat) (f : ByteArray → Fr) {k : Nat} {s : ByteArray} (hs : (allW d n)[k]? = some s) : tabK d n f (k + 1) = tabK d n f k ++ (if (f s).1 = 0 then [] else [(s, f s)]) := by
  unfold tabK
  rw [List.take_add_one, hs, List.filterMap_append]
  congr 1
  show List.filterMap _ [s] = _
  by_cases h : (f s).1 = 0
  · simp [h]
  · simp [h]
theorem tabK_le (d n : Nat) (f : ByteArray → Fr) (k : Nat) : (tabK d n f k).length ≤ (allW d n).length := by
  unfold tabK
  exact Nat.le_trans (List.length_filterMap_le _ _) (by rw [List.length_take]; exact Nat.min_le_right _ _)
end Go.Proofs.Ytcklblagklojhaa.M
namespace Go.Proofs.Ytcklblagklojhaa.H
open Go.RowKit Go.Proofs.YtcklblagklojhaaW.PrintWords Go.Proofs.YtcklblagklojhaaW.PrintLast Go.Proofs.YtcklblagklojhaaW.PrintMore Go.Proofs.Ytcklblagklojhaa.M
attribute [local go_sem] max2_int min2_int max_two min_two max_three min_three max_four min_four
set_option linter.unusedVariables false
set_option linter.unusedSimpArgs false
set_option maxRecDepth 100000
theorem nW_le {d n : Nat} (hl : lev d n = true) : nW d n ≤ 10000 := by
  obtain ⟨h1, h2, h3, h4⟩ := lev_bd hl
  show (allW d n).length ≤ 10000
  rw [allW_length]; exact ahead_le h2 (by omega)
/-- The cells of a table at the place of a word. -/
theorem tab_ix {w : World} {v d n : Nat} {f : ByteArray → Fr} {s : ByteArray} {k : Nat} (h : (tV v d n f).I w) (hk : (allW d n)[k]? = some s) :
    w.cell? ⟨v, k * 2, none⟩ = some (.int .i64 (f s).1) ∧ w.cell? ⟨v, k * 2 + 1, none⟩ = some (.int .i64 (f s).2) := by
  obtain ⟨h1, h2⟩ := List.getElem?_eq_some_iff.1 hk
  have hl2 : k < (tabL d n f).length := by rw [tabL_length]; exact h1
  have he : (tabL d n f)[k] = f s := (List.getElem_map f).trans (by rw [h2])
  exact ⟨tv_cell h 0 hl2 (by omega) (by rw [he]; rfl), tv_cell h 1 hl2 (by omega) (by rw [he]; rfl)⟩
set_option maxHeartbeats 8000000 in
theorem implSeries (g v d n : Nat) (bad : Bool) (f : ByteArray → Fr) (w : World) (hl : lev d n = true) (ht : (tS g v d n (nW d n) bad).I w) (hv : (tV v d n f).I w) :
    Calls Try.prog 185 #[.pointer (some ⟨g, 0, none⟩)] w fun e w' => ∃ A c, e = .returned (.agg #[.int .i64 (d : Int), .int .i64 (n : Int), .slice A (tabT d n f).length c]) ∧ Sep w w' [rowT A c (tabT d n f)] := by
  obtain ⟨hd1, hd3, hn1, hn5⟩ := lev_bd hl
  have hNl := nW_le hl
  have HT := Aside0.mk ht
  have HV := Aside0.mk hv
  have HG := Aside0.mk (fun k (h : k < nW d n) => (⟨_, List.getElem?_eq_getElem h⟩ : ∃ s, (allW d n)[k]? = some s))
  clear ht hv hl
  have HA := Aside0.mk (fun W => implAllWords d n W hd3 hn5)
  have HK := Aside0.mk (fun k => tabK_le d n f k)
  have HKA := Aside0.mk (tabK_all d n f)
  have HW := Aside0.mk (fun (A : Option Addr) (W : World) (k : Nat) (h : Kd.string.C W A (allW d n).length (allW d n)) (hk : k < nW d n) => str_at h k hk)
  obtain ⟨N, hN⟩ : ∃ N, N = nW d n := ⟨_, rfl⟩
  rw [← hN] at HT HG hNl HW
  rw [show (allW d n).length = N from hN.symm] at HK HA HW HKA
  obtain ⟨l, hl⟩ : ∃ l, l = allW d n := ⟨_, rfl⟩
  have HL := Aside0.mk hl
  unfold rowS at HA
  rw [← hl] at HA HW
  have HLN := Aside0.mk (show l.length = N by rw [hl, hN])
  rw [HLN.out] at HA
  clear hN hl
  have HS := Aside0.mk ((Sep.refl w).nil (d := KT) (hE := rfl) (e := 77))
  go_enter Try.func185, Try.ntmps185
  go_wp2_with (first | ((with_reducible refine gate_dst (N := 2) rfl ?_); refine wpList_stp (fun K hK => ?_); refine stp_box (by rfl) HS (cs := #[(.int .i64 0), (.int .i64 0), (.slice none 0 0)]) (t := 32) (by first | (go_simp; done) | (go_simp; rfl)) ?_; clear HS; intro g_r w1 hg_r HS; refine hK _ _ ?_; clear hK K))
  have n_ := Aside0.mk HS.out.drew
  clear HS
  have HS := n_
  clear n_
  refine plan_start (.p 0 (.p 1 (.p 2 (.p 4 (.p 5 (.p 6 (.t 3 (.t 7 (.p 8 (.e 9 (.d 10 .done))))))))))) (fun w' => w'.cell? ⟨g, 0, none⟩ = some (.int .i64 (d : Int)) ∧ w'.cell? ⟨g, 1, none⟩ = some (.int .i64 (n : Int))) [10] (by kernel_rfl) (by kernel_rfl) (fun c_ a_ d_ v_ w_ h_ => by cases d_ <;> exact h_) ⟨bx_c (HS.out.oldI HT.out) 0 (v := .int .i64 (d : Int)) rfl, bx_c (HS.out.oldI HT.out) 1 (v := .int .i64 (n : Int)) rfl⟩ (fun hHeld => ?_)
  repeat (first | ((with_reducible refine gate_p ?_); refine run_p (v := ?_) rfl rfl (Or.inl ⟨by rfl, ?_⟩) (a' := ?_) ?_ ?_; rotate_left; (· (intro w'; first | (go_simp; with_reducible rfl) | (go_simp; done))); rotate_left; (· first | (simp only [Act.put, List.setIfInBounds_toArray, List.set_cons_zero, List.set_cons_succ, i64_w, i32_w]; rfl) | simp only [Act.put, List.setIfInBounds_toArray, List.set_cons_zero, List.set_cons_succ, i64_w, i32_w])) | ((with_reducible refine gate_t ?_); refine run_t (v := ?_) rfl rfl hHeld (Or.inl ⟨by rfl, ?_⟩) (a' := ?_) ?_ ?_; rotate_left; (· (intro w' hS_; first | (go_simp; with_reducible rfl) | (go_simp; done))); rotate_left; (· first | (simp only [Act.put, List.setIfInBounds_toArray, List.set_cons_zero, List.set_cons_succ, i64_w, i32_w]; rfl) | simp only [Act.put, List.setIfInBounds_toArray, List.set_cons_zero, List.set_cons_succ, i64_w, i32_w])))
  refine run_e rfl (fun K hK => ?_)
  refine stp_box (by rfl) HS (cs := #[(.int .i64 0), (.int .i64 0), (.slice none 0 0)]) (t := 32) (by first | (go_simp; done) | (go_simp; rfl)) ?_
  clear HS
  intro g_x w1 hg_x HS
  refine goE hK ⟨bx_c (HS.out.oldI HT.out) 0 (v := .int .i64 (d : Int)) rfl, bx_c (HS.out.oldI HT.out) 1 (v := .int .i64 (n : Int)) rfl⟩ (a' := ?_) ?_ (fun hHeld => ?_)
  rotate_left
  · first | (simp only [Act.put, List.setIfInBounds_toArray, List.set_cons_zero, List.set_cons_succ, i64_w, i32_w]; rfl) | simp only [Act.put, List.setIfInBounds_toArray, List.set_cons_zero, List.set_cons_succ, i64_w, i32_w]
  clear hK K
  refine run_d rfl (fun K hK => ?_)
  refine stp_set (by rfl) rfl rfl HS 0 0 (cs' := #[(.int .i64 (d : Int)), (.int .i64 (n : Int)), (.slice none 0 0)]) rfl rfl rfl (by kernel_rfl) rfl rfl ?_
  clear HS
  intro w1 HS
  simp only [List.set_cons_zero, List.set_cons_succ] at HS
  refine goD hK rfl ?_
  clear hK K
  refine run_done ?_
  clear hHeld
  go_wp2
  have n_ := Aside0.mk HS.out.drew
  clear HS
  have HS := n_
  clear n_
  refine plan_start (.p 0 (.p 1 (.p 2 (.p 4 (.p 5 (.p 6 (.p 10 (.t 3 (.t 7 (.d 8 (.p 9 .done))))))))))) (fun w' => w'.cell? ⟨g, 0, none⟩ = some (.int .i64 (d : Int)) ∧ w'.cell? ⟨g, 1, none⟩ = some (.int .i64 (n : Int))) [8] (by kernel_rfl) (by kernel_rfl) (fun c_ a_ d_ v_ w_ h_ => by cases d_ <;> exact h_) ⟨bx_c (HS.out.oldI HT.out) 0 (v := .int .i64 (d : Int)) rfl, bx_c (HS.out.oldI HT.out) 1 (v := .int .i64 (n : Int)) rfl⟩ (fun hHeld => ?_)
  repeat (first | ((with_reducible refine gate_p ?_); refine run_p (v := ?_) rfl rfl (Or.inl ⟨by rfl, ?_⟩) (a' := ?_) ?_ ?_; rotate_left; (· (intro w'; first | (go_simp; with_reducible rfl) | (go_simp; done))); rotate_left; (· first | (simp only [Act.put, List.setIfInBounds_toArray, List.set_cons_zero, List.set_cons_succ, i64_w, i32_w]; rfl) | simp only [Act.put, List.setIfInBounds_toArray, List.set_cons_zero, List.set_cons_succ, i64_w, i32_w])) | ((with_reducible refine gate_t ?_); refine run_t (v := ?_) rfl rfl hHeld (Or.inl ⟨by rfl, ?_⟩) (a' := ?_) ?_ ?_; rotate_left; (· (intro w' hS_; first | (go_simp; with_reducible rfl) | (go_simp; done))); rotate_left; (· first | (simp only [Act.put, List.setIfInBounds_toArray, List.set_cons_zero, List.set_cons_succ, i64_w, i32_w]; rfl) | simp only [Act.put, List.setIfInBounds_toArray, List.set_cons_zero, List.set_cons_succ, i64_w, i32_w])))
  refine run_d rfl (fun K hK => ?_)
  refine goes_ Try.func183 (by kernel_rfl) rfl #[(.int .i64 (d : Int)), (.int .i64 (n : Int))] (by rfl) rfl rfl (by simp only [List.map_toArray, List.map_cons, List.map_nil]; rfl) ?_
  refine (HA.out _).mono ?_
  rintro e_ w1 ⟨B, b, rfl, hs⟩
  refine ⟨_, rfl, ?_⟩
  have n_ := Aside0.mk (HS.out.new hs)
  clear HS hs
  have HS := n_
  clear n_
  simp only [List.cons_append, List.nil_append] at HS
  refine goD hK (a' := ?_) ?_ ?_
  rotate_left
  · first | (simp only [Act.put, List.setIfInBounds_toArray, List.set_cons_zero, List.set_cons_succ, i64_w, i32_w]; rfl) | simp only [Act.put, List.setIfInBounds_toArray, List.set_cons_zero, List.set_cons_succ, i64_w, i32_w]
  clear hK K
  repeat (first | ((with_reducible refine gate_p ?_); refine run_p (v := ?_) rfl rfl (Or.inl ⟨by rfl, ?_⟩) (a' := ?_) ?_ ?_; rotate_left; (· (intro w'; first | (go_simp; with_reducible rfl) | (go_simp; done))); rotate_left; (· first | (simp only [Act.put, List.setIfInBounds_toArray, List.set_cons_zero, List.set_cons_succ, i64_w, i32_w]; rfl) | simp only [Act.put, List.setIfInBounds_toArray, List.set_cons_zero, List.set_cons_succ, i64_w, i32_w])) | ((with_reducible refine gate_t ?_); refine run_t (v := ?_) rfl rfl hHeld (Or.inl ⟨by rfl, ?_⟩) (a' := ?_) ?_ ?_; rotate_left; (· (intro w' hS_; first | (go_simp; with_reducible rfl) | (go_simp; done))); rotate_left; (· first | (simp only [Act.put, List.setIfInBounds_toArray, List.set_cons_zero, List.set_cons_succ, i64_w, i32_w]; rfl) | simp only [Act.put, List.setIfInBounds_toArray, List.set_cons_zero, List.set_cons_succ, i64_w, i32_w])))
  refine run_done ?_
  clear hHeld
  go_wp2
  go_loopw [25] (fun q w' => ∃ (i : Nat) (A : Option Addr) (c : Nat) (y : Ts), i ≤ N ∧ q = .int .i64 (i : Int) ∧ Aside0 (y = tabK d n f i) ∧ Aside0 (Mod w w' No [rw' Kd.string rfl 9 (.slice B N b) l, bx g_x 32 #[.int .i64 (d : Int), .int .i64 (n : Int), .slice A y.length c], bx g_r 32 #[(.int .i64 0), (.int .i64 0), (.slice none 0 0)], rowT A c y])) (fun q _ => N - (intOf q).toNat)
  case atStart => exact ⟨0, none, 0, [], by omega, rfl, ⟨rfl⟩, HS⟩
  case round =>
    clear HS
    obtain ⟨i, A, c, y, hi, rfl, HY, HS⟩ := hrel
    by_cases hlt : i < N
    · have hyl : y.length ≤ 10000 := by rw [HY.out]; exact Nat.le_trans (HK.out i) hNl
      obtain ⟨s, hs⟩ := HG.out i hlt
      obtain ⟨ad, ea, h0_⟩ := HW.out B _ i (by have := HS.out.reads 0 rfl; rwa [HLN.out] at this) hlt
      cases ea
      have hs' : l.getD i ByteArray.empty = s := by rw [List.getD_eq_getElem?_getD, HL.out, hs]; rfl
      rw [hs'] at h0_
      have HE := Aside0.mk hs
      have H0 := Aside0.mk h0_
      clear hs hs' h0_
      by_cases hz : (f s).1 = 0
      · have HZ := Aside0.mk hz
        have hb : ((f s).1 != 0) = false := by rw [hz]; rfl
        clear hz
        have f1_ := H0.out
        have f2_ := bx_c (HS.out.oldI HT.out) 2 (v := .slice (some ⟨v, 0, none⟩) N N) rfl
        have f3_ := (tab_ix (HS.out.oldI HV.out) HE.out).1
        go_wp2
        go_roundw
        case rel => exact ⟨i + 1, A, c, y, by omega, by go_num, ⟨by rw [HY.out, tabK_succ d n f HE.out, if_pos HZ.out, List.append_nil]⟩, HS⟩
        case measure => simp [intOf]; omega
      · have HZ := Aside0.mk hz
        have hb : ((f s).1 != 0) = true := by simpa using hz
        clear hz
        have f1_ := H0.out
        have f2_ := bx_c (HS.out.oldI HT.out) 2 (v := .slice (some ⟨v, 0, none⟩) N N) rfl
        have f3_ := (tab_ix (HS.out.oldI HV.out) HE.out).1
        go_wp2
        clear f1_ f2_ f3_
        have n_ := Aside0.mk HS.out.drew
        clear HS
        have HS := n_
        clear n_
        refine plan_start (.p 0 (.p 2 (.p 3 (.p 4 (.p 5 (.p 7 (.t 1 (.t 6 (.p 8 (.t 9 (.p 10 (.e 11 (.d 12 (.p 13 (.d 14 .done))))))))))))))) (fun w' => w'.cell? ⟨g_x, 2, none⟩ = some (.slice A y.length c) ∧ w'.cell? ⟨g, 2, none⟩ = some (.slice (some ⟨v, 0, none⟩) N N) ∧ w'.cell? ⟨v, i * 2, none⟩ = some (.int .i64 (f s).1) ∧ w'.cell? ⟨v, i * 2 + 1, none⟩ = some (.int .i64 (f s).2)) [12, 14] (by kernel_rfl) (by kernel_rfl) (fun c_ a_ d_ v_ w_ h_ => by cases d_ <;> exact h_) ⟨HS.out.c 1 2 (v := .slice A y.length c) rfl rfl, bx_c (HS.out.oldI HT.out) 2 (v := .slice (some ⟨v, 0, none⟩) N N) rfl, (tab_ix (HS.out.oldI HV.out) HE.out).1, (tab_ix (HS.out.oldI HV.out) HE.out).2⟩ (fun hHeld => ?_)
        repeat (first | ((with_reducible refine gate_p ?_); refine run_p (v := ?_) rfl rfl (Or.inl ⟨by rfl, ?_⟩) (a' := ?_) ?_ ?_; rotate_left; (· (intro w'; first | (go_simp; with_reducible rfl) | (go_simp; done))); rotate_left; (· first | (simp only [Act.put, List.setIfInBounds_toArray, List.set_cons_zero, List.set_cons_succ, i64_w, i32_w]; rfl) | simp only [Act.put, List.setIfInBounds_toArray, List.set_cons_zero, List.set_cons_succ, i64_w, i32_w])) | ((with_reducible refine gate_t ?_); refine run_t (v := ?_) rfl rfl hHeld (Or.inl ⟨by rfl, ?_⟩) (a' := ?_) ?_ ?_; rotate_left; (· (intro w' hS_; first | (go_simp; with_reducible rfl) | (go_simp; done))); rotate_left; (· first | (simp only [Act.put, List.setIfInBounds_toArray, List.set_cons_zero, List.set_cons_succ, i64_w, i32_w]; rfl) | simp only [Act.put, List.setIfInBounds_toArray, List.set_cons_zero, List.set_cons_succ, i64_w, i32_w])))
        refine run_e rfl (fun K hK => ?_)
        refine stp_lit (KT) rfl 77 (by rfl) HS (xs := [((s, f s) : Tm)]) (inner := [.string s, .int .i64 (f s).1, .int .i64 (f s).2]) (by first | (go_simp; done) | (go_simp; rfl)) (fun W base ok => Reps.snoc (Reps.none _ _) (KT_M (s, f s) W base ok) rfl) (by simp) ?_
        clear HS
        intro A_z c_z w1 HS
        refine goE hK ⟨HS.out.c 2 2 (v := .slice A y.length c) rfl rfl, bx_c (HS.out.oldI HT.out) 2 (v := .slice (some ⟨v, 0, none⟩) N N) rfl, (tab_ix (HS.out.oldI HV.out) HE.out).1, (tab_ix (HS.out.oldI HV.out) HE.out).2⟩ (a' := ?_) ?_ (fun hHeld => ?_)
        rotate_left
        · first | (simp only [Act.put, List.setIfInBounds_toArray, List.set_cons_zero, List.set_cons_succ, i64_w, i32_w]; rfl) | simp only [Act.put, List.setIfInBounds_toArray, List.set_cons_zero, List.set_cons_succ, i64_w, i32_w]
        clear hK K
        refine run_d rfl (fun K hK => ?_)
        refine stp_rows KT rfl (fun _ _ _ _ _ h => h) (by rfl) HS 4 rfl (.tmp 40) (.tmp 50) 30 (.agg #[(.string ⟨#[]⟩), (.int .i64 0), (.int .i64 0)]) 32 rfl Try.underlying30 infoTerm (by kernel_rfl) [(s, f s)] rfl rfl (HS.out.reads 0 rfl) (by show (y.length + 1) * 32 ≤ _; omega) ?_
        clear HS
        intro A_y' c_y' y' w1 Ny' HS
        simp only [List.set_cons_zero, List.set_cons_succ] at HS
        refine goD hK (a' := ?_) ?_ ?_
        rotate_left
        · first | (simp only [Act.put, List.setIfInBounds_toArray, List.set_cons_zero, List.set_cons_succ, i64_w, i32_w]; rfl) | simp only [Act.put, List.setIfInBounds_toArray, List.set_cons_zero, List.set_cons_succ, i64_w, i32_w]
        clear hK K
        repeat (first | ((with_reducible refine gate_p ?_); refine run_p (v := ?_) rfl rfl (Or.inl ⟨by rfl, ?_⟩) (a' := ?_) ?_ ?_; rotate_left; (· (intro w'; first | (go_simp; with_reducible rfl) | (go_simp; done))); rotate_left; (· first | (simp only [Act.put, List.setIfInBounds_toArray, List.set_cons_zero, List.set_cons_succ, i64_w, i32_w]; rfl) | simp only [Act.put, List.setIfInBounds_toArray, List.set_cons_zero, List.set_cons_succ, i64_w, i32_w])) | ((with_reducible refine gate_t ?_); refine run_t (v := ?_) rfl rfl hHeld (Or.inl ⟨by rfl, ?_⟩) (a' := ?_) ?_ ?_; rotate_left; (· (intro w' hS_; first | (go_simp; with_reducible rfl) | (go_simp; done))); rotate_left; (· first | (simp only [Act.put, List.setIfInBounds_toArray, List.set_cons_zero, List.set_cons_succ, i64_w, i32_w]; rfl) | simp only [Act.put, List.setIfInBounds_toArray, List.set_cons_zero, List.set_cons_succ, i64_w, i32_w])))
        refine run_d rfl (fun K hK => ?_)
        refine stp_set (by rfl) rfl rfl HS 2 2 (cs' := #[.int .i64 (d : Int), .int .i64 (n : Int), (.slice A_y' y'.length c_y')]) rfl rfl rfl (by kernel_rfl) rfl rfl ?_
        clear HS
        intro w1 HS
        simp only [List.set_cons_zero, List.set_cons_succ] at HS
        refine goD hK rfl ?_
        clear hK K
        refine run_done ?_
        clear hHeld
        go_wp2
        have n_ := Aside0.mk (HS.out.sel [1, 2, 3, 4] (by decide)); clear HS; have HS := n_; clear n_; simp only [List.filterMap_cons, List.filterMap_nil, List.getElem?_cons_zero, List.getElem?_cons_succ] at HS
        go_roundw
        case rel => exact ⟨i + 1, A_y', c_y', y', by omega, by go_num, ⟨by rw [Ny'.out, HY.out, tabK_succ d n f HE.out, if_neg HZ.out]⟩, HS⟩
        case measure => simp [intOf]; omega
    · obtain rfl : i = N := by omega
      have f1_ := HS.out.c 1 0 (v := .int .i64 (d : Int)) rfl rfl
      have f2_ := HS.out.c 1 1 (v := .int .i64 (n : Int)) rfl rfl
      have f3_ := HS.out.c 1 2 (v := .slice A y.length c) rfl rfl
      go_wp2_with (first | ((with_reducible refine gate_store (t := 32) (p := 2) rfl ?_); refine wpList_stp (fun K hK => ?_); refine stp_set (by rfl) rfl rfl HS 2 0 (cs' := #[.int .i64 (d : Int), .int .i64 (n : Int), .slice A y.length c]) rfl rfl rfl (by kernel_rfl) rfl rfl ?_; clear HS f1_ f2_ f3_; intro w1 HS; simp only [List.set_cons_zero, List.set_cons_succ] at HS; refine hK _ _ ?_; clear hK K))
      refine bodyPost_ret (results_cell_row rfl _ _ g_r 32 #[.int .i64 (d : Int), .int .i64 (n : Int), .slice A y.length c] (0, 0) _ rfl (HS.out.at (i := 2) rfl) Try.underlying32 rfl (by kernel_rfl)) rfl ?_
      obtain rfl := HY.out.trans HKA.out
      have n_ := Aside0.mk (HS.out.sel [3] (by decide)); clear HS; have HS := n_; clear n_; simp only [List.filterMap_cons, List.filterMap_nil, List.getElem?_cons_zero, List.getElem?_cons_succ] at HS
      exact ⟨A, c, rfl, HS.out⟩
end Go.Proofs.Ytcklblagklojhaa.H

