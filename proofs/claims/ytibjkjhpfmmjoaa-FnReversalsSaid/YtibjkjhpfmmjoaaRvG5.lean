/- Plain facts and contracts of functions that the law's walk uses. Conditions: those that stand in each statement. -/
import Derived.Test.YtibjkjhpfmmjoaaRvG1
import Derived.Test.YtibjkjhpfmmjoaaRvG4
namespace Go.Proofs.Ytibjkjhpfmmjoaa.M
def resP : Option Ts → Ts × Bool
  | none => ([], false)
  | some y => (y, true)
theorem put_eq {l : Ts} {s : ByteArray} {a : Fr} {k : Nat} (hb : ∀ j, j < k → bef (l.getD j H.zT).1 s = true) (hk : k < l.length) (h1 : bef (l.getD k H.zT).1 s = false) (h2 : (l.getD k H.zT).1 = s) :
    put l s a = (add (l.getD k H.zT).2 a).map fun c => l.take k ++ ((if c.1 = 0 then [] else [(s, c)]) ++ l.drop (k + 1)) := by
  induction l generalizing k with
  | nil => cases hk
  | cons t r ih =>
    cases k with
    | zero =>
      rw [List.getD_cons_zero] at h1 h2 ⊢
      rw [put, if_neg (by rw [h1]; decide), if_pos h2]
      congr 1
      funext c
      by_cases h : c.1 = 0 <;> simp [h]
    | succ k =>
      rw [List.getD_cons_succ] at h1 h2 ⊢
      have h0 := hb 0 (by omega)
      rw [List.getD_cons_zero] at h0
      rw [put, if_pos h0, ih (k := k) (fun j hj => by have := hb (j + 1) (by omega); rwa [List.getD_cons_succ] at this) (by simpa using hk) h1 h2]
      cases add (r.getD k H.zT).2 a <;> rfl
theorem put_ne {l : Ts} {s : ByteArray} {a : Fr} {k : Nat} (hb : ∀ j, j < k → bef (l.getD j H.zT).1 s = true) (hk : k < l.length) (h1 : bef (l.getD k H.zT).1 s = false) (h2 : (l.getD k H.zT).1 ≠ s) :
    put l s a = some (l.take k ++ ((if a.1 = 0 then [] else [(s, a)]) ++ l.drop k)) := by
  induction l generalizing k with
  | nil => cases hk
  | cons t r ih =>
    cases k with
    | zero =>
      rw [List.getD_cons_zero] at h1 h2
      rw [put, if_neg (by rw [h1]; decide), if_neg h2]
      by_cases h : a.1 = 0 <;> simp [h]
    | succ k =>
      rw [List.getD_cons_succ] at h1 h2
      have h0 := hb 0 (by omega)
      rw [List.getD_cons_zero] at h0
      rw [put, if_pos h0, ih (k := k) (fun j hj => by have := hb (j + 1) (by omega); rwa [List.getD_cons_succ] at this) (by simpa using hk) h1 h2]
      rfl
theorem put_end {l : Ts} {s : ByteArray} {a : Fr} (hb : ∀ j, j < l.length → bef (l.getD j H.zT).1 s = true) : put l s a = some (l ++ (if a.1 = 0 then [] else [(s, a)])) := by
  induction l with
  | nil => rfl
  | cons t r ih =>
    have h0 := hb 0 (by simp)
    rw [List.getD_cons_zero] at h0
    rw [put, if_pos h0, ih (fun j hj => by have := hb (j + 1) (by simpa using hj); rwa [List.getD_cons_succ] at this)]
    rfl
end Go.Proofs.Ytibjkjhpfmmjoaa.M
namespace Go.Proofs.Ytibjkjhpfmmjoaa.H
open Go.RowKit Go.Proofs.YtibjkjhpfmmjoaaW.PrintWords Go.Proofs.YtibjkjhpfmmjoaaW.PrintLast Go.Proofs.YtibjkjhpfmmjoaaW.PrintMore Go.Proofs.Ytibjkjhpfmmjoaa.M
attribute [local go_sem] max2_int min2_int max_two min_two max_three min_three max_four min_four
set_option linter.unusedVariables false
set_option linter.unusedSimpArgs false
set_option maxRecDepth 100000
theorem C_takeN {W : World} {A : Option Addr} {l : Ts} {k : Nat} (h : KT.C W A l.length l) (hk : k ≤ l.length) : KT.C W A k (l.take k) := by
  have := Kd.C_take (m := k) h hk
  rwa [show (l.take k).length = k by rw [List.length_take]; omega] at this
theorem C_zero {W : World} {A : Option Addr} : KT.C W A 0 ([] : Ts) := ⟨rfl, by omega, fun h => absurd h (Nat.lt_irrefl 0)⟩
theorem C_dropN1 {W : World} {A : Option Addr} {l : Ts} {k c : Nat} (h : KT.C W A l.length l) (hk : k ≤ l.length) (hc : l.length ≤ c) (hck : c = k) : KT.C W A (l.length - k) (l.drop k) := by
  have := Kd.C_drop (m := k) (c := c) h hk hc
  rwa [List.length_drop, if_pos hck] at this
theorem C_dropN2 {W : World} {A : Option Addr} {l : Ts} {k c : Nat} (h : KT.C W A l.length l) (hk : k ≤ l.length) (hc : l.length ≤ c) (hck : ¬ c = k) : KT.C W (A.map (·.add (k * 3))) (l.length - k) (l.drop k) := by
  have := Kd.C_drop (m := k) (c := c) h hk hc
  rwa [List.length_drop, if_neg hck] at this
theorem C_dropN3 {W : World} {A : Option Addr} {l : Ts} {k c : Nat} (h : KT.C W A l.length l) (hk : k ≤ l.length) (hc : l.length ≤ c) : KT.C W (if c = k then A else A.map (·.add (k * 3))) (l.length - k) (l.drop k) := by
  have := Kd.C_drop (m := k) (c := c) h hk hc
  rwa [List.length_drop] at this
set_option maxHeartbeats 16000000 in
theorem specPut (A : Option Addr) (c : Nat) (l : Ts) (s : ByteArray) (x y : Int) (w : World) (hr : KT.C w A l.length l) (hc : l.length ≤ c) (hb : bnd l = true) (hsm : ∀ t ∈ l, small t.2) (hs : s.size ≤ 1048576) (ha : small (x, y)) :
    Calls Try.prog 110 #[.slice A l.length c, .string s, .agg #[.int .i64 x, .int .i64 y]] w fun e w' => ∃ B b, e = .returned (.tuple #[.slice B (resP (put l s (x, y))).1.length b, .bool (resP (put l s (x, y))).2]) ∧ Sep w w' [rowT B b (resP (put l s (x, y))).1] := by
  have HR := Aside0.mk hr
  have hll := (bnd_iff.1 hb).1
  have HZS := Aside0.mk (fun j => bnd_get hb j)
  have HSM := Aside0.mk (fun k (h : k < l.length) => (by rw [getD_lt l zT k h]; exact hsm _ (List.getElem_mem h) : small (l.getD k zT).2))
  have HA := Aside0.mk ha
  have HS := Aside0.mk (Sep.refl w)
  clear hr hb hsm ha
  go_enter Try.func110, Try.ntmps110
  go_wp2_with (first | ((with_reducible refine gate_dst (N := 5) rfl ?_); refine bxL 34 #[.int .i64 x, .int .i64 y] HS ?_; clear HS; intro g_a w1 hg_a HS))
  go_loopw [8] (fun v w' => ∃ k : Nat, k ≤ l.length ∧ v = .int .i64 (k : Int) ∧ Aside0 (∀ j, j < k → bef (l.getD j zT).1 s = true) ∧ Aside0 (Mod w w' No [bx g_a 34 #[.int .i64 x, .int .i64 y]])) (fun v _ => l.length - (intOf v).toNat)
  case atStart => exact ⟨0, by omega, rfl, ⟨fun _ h => by omega⟩, HS⟩
  case round =>
    clear HS
    obtain ⟨k, hk, rfl, HB, HS⟩ := hrel
    have HKT := Aside0.mk (show (l.take k).length = k by rw [List.length_take]; omega)
    have hy1 : ∀ y : Ts, Aside0 (y = [] ++ l.take k) → y.length ≤ 1048576 := fun y h => by rw [h.out, List.nil_append, HKT.out]; omega
    have hy2 : ∀ (y z : Ts) {p : Tm}, Aside0 (y = [] ++ l.take k) → Aside0 (z = y ++ [p]) → z.length ≤ 1048577 := fun y z p h h2 => by rw [h2.out, List.length_append]; have := hy1 y h; simp; omega
    by_cases hlt : k < l.length
    · have HG := Aside0.mk (fun b e => put_eq HB.out hlt (a := (x, y)) b e)
      have HN := Aside0.mk (fun b e => put_ne HB.out hlt (a := (x, y)) b e)
      have hsz := HZS.out k
      have hsm := HSM.out k hlt
      obtain ⟨ad_A, ea_, h0_, h1_, h2_⟩ := tm_at HR.out k (hlt)
      cases ea_
      obtain ⟨t, ht_⟩ : ∃ t_, t_ = l.getD k zT := ⟨_, rfl⟩
      rw [← ht_] at h0_ h1_ h2_
      have Et := Aside0.mk ht_; have H0t := Aside0.mk h0_; have H1t := Aside0.mk h1_; have H2t := Aside0.mk h2_
      clear ht_ h0_ h1_ h2_
      rw [← Et.out] at hsz hsm HG HN
      cases hbf : bef t.1 s with
      | true =>
        have f1_ := HS.out.old H0t.out
        go_wp2_with (first | (go_at_call 109; refine (specBefore t.1 s _ (by omega) (by omega)).mono ?_; rintro e_ w1 ⟨rfl, hb⟩; replace HS := sB HS hb; clear hb f1_))
        go_roundw
        case rel => exact ⟨k + 1, by omega, by go_num, ⟨round_next HB.out (by rw [← Et.out]; exact hbf)⟩, HS⟩
        case measure => simp [intOf]; omega
      | false =>
        by_cases he : t.1 = s
        · have hse : (t.1.toList == s.toList) = true := by rw [he]; simp
          obtain ⟨o, ho⟩ : ∃ o, o = add t.2 (x, y) := ⟨_, rfl⟩
          have HP := Aside0.mk (fun W => ho ▸ specPlus t.2.1 t.2.2 x y W hsm HA.out)
          have HPut := Aside0.mk (HG.out hbf he)
          rw [← ho] at HPut
          clear ho he
          cases o with
          | none =>
            have f1_ := HS.out.old H0t.out
            go_wp2_with (first | (go_at_call 109; refine (specBefore t.1 s _ (by omega) (by omega)).mono ?_; rintro e_ w1 ⟨rfl, hb⟩; replace HS := sB HS hb; clear hb f1_) | ((with_reducible refine gate_dst (N := 27) rfl ?_); refine wpList_stp (fun K hK => ?_); refine stp_lit (KT) rfl 38 (by rfl) HS (xs := ([] : Ts)) (inner := []) (by first | (go_simp; done) | (go_simp; rfl)) (fun W base ok => Reps.none _ _) (by simp) ?_; clear HS; intro A_o c_o w1 HS; refine hK _ _ ?_; clear hK K) | ((with_reducible refine gate_builtin (b := .append) (xs := #[.tmp 27, .tmp 30]) rfl ?_); at_builtin; refine wpList_stp (fun K hK => ?_); refine stp_rows KT rfl (fun _ _ _ _ _ h => h) (by rfl) HS 0 (xs := []) rfl (.tmp 27) (.tmp 30) 24 (.agg #[(.string ⟨#[]⟩), (.int .i64 0), (.int .i64 0)]) 32 rfl Try.underlying24 infoTerm (by kernel_rfl) (l.take k) rfl rfl (C_takeN (k := k) (HS.out.oldC HR.out) (by omega)) (by show (0 + k) * 32 ≤ _; omega) ?_; clear HS; intro A_y1 c_y1 y1 w1 Ny1 HS; simp only [List.set_cons_zero, List.set_cons_succ] at HS; refine hK _ _ ?_; clear hK K; have f1_ := HS.out.old H0t.out))
            clear f1_
            replace HS := sD HS
            apply region_told ((fun (A0_ : Nat → Act) (a' : Act) (w' : World) => ∃ (g_b : Nat), a' = A0_ g_b ∧ Aside0 (Mod w w' No [bx g_b 34 #[.int .i64 0, .int .i64 0], rw' (KT) rfl 38 (.slice A_y1 (y1).length c_y1) (y1), bx g_a 34 #[.int .i64 x, .int .i64 y]])) _)
            case h1 =>
              refine ps (.p 0 (.p 1 (.p 2 (.p 3 (.t 4 (.t 5 (.two 6 10 (.p 7 (.p 8 (.p 9 (.e 10 (.d 11 (.p 12 .done)))))) (.e 6 (.p 7 (.p 8 (.p 9 (.d 11 (.p 12 .done))))))))))))) (fun w' => w'.cell? ⟨(ad_A.add (k * 3)).block, (ad_A.add (k * 3)).off + 1, none⟩ = some (.int .i64 t.2.1) ∧ w'.cell? ⟨(ad_A.add (k * 3)).block, (ad_A.add (k * 3)).off + 1 + 1, none⟩ = some (.int .i64 t.2.2) ∧ w'.cell? ⟨g_a, 0, none⟩ = some (.int .i64 x) ∧ w'.cell? ⟨g_a, 1, none⟩ = some (.int .i64 y)) [11] ⟨HS.out.old H1t.out, c2 (HS.out.old H2t.out), HS.out.c 1 0 (v := .int .i64 x) rfl rfl, HS.out.c 1 1 (v := .int .i64 y) rfl rfl⟩ (fun hHeld => ?_)
              repeat (first | ((with_reducible refine gate_p ?_); refine rp rfl rfl ?_) | ((with_reducible refine gate_t ?_); refine rt rfl rfl hHeld ?_))
              refine run_two ?_ ?_
              · skip
                refine run_e rfl (fun K hK => ?_)
                refine gc Try.func122 (HP.out _) rfl rfl ?_
                rintro e_ w1 ⟨rfl, hb⟩
                refine ⟨_, rfl, ?_⟩
                replace HS := sB HS hb
                refine ge hK ⟨HS.out.old H1t.out, c2 (HS.out.old H2t.out), HS.out.c 1 0 (v := .int .i64 x) rfl rfl, HS.out.c 1 1 (v := .int .i64 y) rfl rfl⟩ (fun hHeld => ?_)
                repeat (first | ((with_reducible refine gate_p ?_); refine rp rfl rfl ?_) | ((with_reducible refine gate_t ?_); refine rt rfl rfl hHeld ?_))
                refine run_e rfl (fun K hK => ?_)
                refine bx1 34 #[(.int .i64 0), (.int .i64 0)] HS ?_
                intro g_b w1 hg_b HS
                refine ge hK ⟨HS.out.old H1t.out, c2 (HS.out.old H2t.out), HS.out.c 2 0 (v := .int .i64 x) rfl rfl, HS.out.c 2 1 (v := .int .i64 y) rfl rfl⟩ (fun hHeld => ?_)
                refine run_d rfl (fun K hK => ?_)
                refine st1 HS 0 0 #[.int .i64 0, .int .i64 0] rfl rfl rfl rfl rfl ?_
                intro w1 HS
                refine goD hK rfl ?_
                repeat (first | ((with_reducible refine gate_p ?_); refine rp rfl rfl ?_) | ((with_reducible refine gate_t ?_); refine rt rfl rfl hHeld ?_))
                refine run_done ?_
                exact ⟨g_b, rfl, HS⟩
              · skip
                refine run_e rfl (fun K hK => ?_)
                refine bx1 34 #[(.int .i64 0), (.int .i64 0)] HS ?_
                intro g_b w1 hg_b HS
                refine ge hK ⟨HS.out.old H1t.out, c2 (HS.out.old H2t.out), HS.out.c 2 0 (v := .int .i64 x) rfl rfl, HS.out.c 2 1 (v := .int .i64 y) rfl rfl⟩ (fun hHeld => ?_)
                refine run_e rfl (fun K hK => ?_)
                refine gc Try.func122 (HP.out _) rfl rfl ?_
                rintro e_ w1 ⟨rfl, hb⟩
                refine ⟨_, rfl, ?_⟩
                replace HS := sB HS hb
                refine ge hK ⟨HS.out.old H1t.out, c2 (HS.out.old H2t.out), HS.out.c 2 0 (v := .int .i64 x) rfl rfl, HS.out.c 2 1 (v := .int .i64 y) rfl rfl⟩ (fun hHeld => ?_)
                repeat (first | ((with_reducible refine gate_p ?_); refine rp rfl rfl ?_) | ((with_reducible refine gate_t ?_); refine rt rfl rfl hHeld ?_))
                refine run_d rfl (fun K hK => ?_)
                refine st1 HS 0 0 #[.int .i64 0, .int .i64 0] rfl rfl rfl rfl rfl ?_
                intro w1 HS
                refine goD hK rfl ?_
                repeat (first | ((with_reducible refine gate_p ?_); refine rp rfl rfl ?_) | ((with_reducible refine gate_t ?_); refine rt rfl rfl hHeld ?_))
                refine run_done ?_
                have n_ := HS.out.sel [0, 1, 2] (by decide)
                simp only [List.filterMap_cons, List.filterMap_nil, List.getElem?_cons_zero, List.getElem?_cons_succ] at n_
                exact ⟨g_b, rfl, ⟨n_⟩⟩
            clear HS
            rintro a_ w1 ⟨g_b, rfl, HS⟩
            go_wp2
            go_ret2
            have e_ : resP (put l s (x, y)) = ([], false) := by rw [HPut.out]; rfl
            rw [e_]
            exact ⟨none, 0, rfl, nilS (HS.out.sel [] (by decide))⟩
          | some v =>
            by_cases hz : v.1 = 0
            · skip
              have hzb : (v.1 == 0) = true := by rw [hz]; rfl
              have HZ := Aside0.mk hz
              clear hz
              have f1_ := HS.out.old H0t.out
              go_wp2_with (first | (go_at_call 109; refine (specBefore t.1 s _ (by omega) (by omega)).mono ?_; rintro e_ w1 ⟨rfl, hb⟩; replace HS := sB HS hb; clear hb f1_) | ((with_reducible refine gate_dst (N := 27) rfl ?_); refine wpList_stp (fun K hK => ?_); refine stp_lit (KT) rfl 38 (by rfl) HS (xs := ([] : Ts)) (inner := []) (by first | (go_simp; done) | (go_simp; rfl)) (fun W base ok => Reps.none _ _) (by simp) ?_; clear HS; intro A_o c_o w1 HS; refine hK _ _ ?_; clear hK K) | ((with_reducible refine gate_builtin (b := .append) (xs := #[.tmp 27, .tmp 30]) rfl ?_); at_builtin; refine wpList_stp (fun K hK => ?_); refine stp_rows KT rfl (fun _ _ _ _ _ h => h) (by rfl) HS 0 (xs := []) rfl (.tmp 27) (.tmp 30) 24 (.agg #[(.string ⟨#[]⟩), (.int .i64 0), (.int .i64 0)]) 32 rfl Try.underlying24 infoTerm (by kernel_rfl) (l.take k) rfl rfl (C_takeN (k := k) (HS.out.oldC HR.out) (by omega)) (by show (0 + k) * 32 ≤ _; omega) ?_; clear HS; intro A_y1 c_y1 y1 w1 Ny1 HS; simp only [List.set_cons_zero, List.set_cons_succ] at HS; refine hK _ _ ?_; clear hK K; have f1_ := HS.out.old H0t.out))
              clear f1_
              replace HS := sD HS
              apply region_told ((fun (A0_ : Nat → Act) (a' : Act) (w' : World) => ∃ (g_b : Nat), a' = A0_ g_b ∧ Aside0 (Mod w w' No [bx g_b 34 #[.int .i64 v.1, .int .i64 v.2], rw' (KT) rfl 38 (.slice A_y1 (y1).length c_y1) (y1), bx g_a 34 #[.int .i64 x, .int .i64 y]])) _)
              case h1 =>
                refine ps (.p 0 (.p 1 (.p 2 (.p 3 (.t 4 (.t 5 (.two 6 10 (.p 7 (.p 8 (.p 9 (.e 10 (.d 11 (.p 12 .done)))))) (.e 6 (.p 7 (.p 8 (.p 9 (.d 11 (.p 12 .done))))))))))))) (fun w' => w'.cell? ⟨(ad_A.add (k * 3)).block, (ad_A.add (k * 3)).off + 1, none⟩ = some (.int .i64 t.2.1) ∧ w'.cell? ⟨(ad_A.add (k * 3)).block, (ad_A.add (k * 3)).off + 1 + 1, none⟩ = some (.int .i64 t.2.2) ∧ w'.cell? ⟨g_a, 0, none⟩ = some (.int .i64 x) ∧ w'.cell? ⟨g_a, 1, none⟩ = some (.int .i64 y)) [11] ⟨HS.out.old H1t.out, c2 (HS.out.old H2t.out), HS.out.c 1 0 (v := .int .i64 x) rfl rfl, HS.out.c 1 1 (v := .int .i64 y) rfl rfl⟩ (fun hHeld => ?_)
                repeat (first | ((with_reducible refine gate_p ?_); refine rp rfl rfl ?_) | ((with_reducible refine gate_t ?_); refine rt rfl rfl hHeld ?_))
                refine run_two ?_ ?_
                · skip
                  refine run_e rfl (fun K hK => ?_)
                  refine gc Try.func122 (HP.out _) rfl rfl ?_
                  rintro e_ w1 ⟨rfl, hb⟩
                  refine ⟨_, rfl, ?_⟩
                  replace HS := sB HS hb
                  refine ge hK ⟨HS.out.old H1t.out, c2 (HS.out.old H2t.out), HS.out.c 1 0 (v := .int .i64 x) rfl rfl, HS.out.c 1 1 (v := .int .i64 y) rfl rfl⟩ (fun hHeld => ?_)
                  repeat (first | ((with_reducible refine gate_p ?_); refine rp rfl rfl ?_) | ((with_reducible refine gate_t ?_); refine rt rfl rfl hHeld ?_))
                  refine run_e rfl (fun K hK => ?_)
                  refine bx1 34 #[(.int .i64 0), (.int .i64 0)] HS ?_
                  intro g_b w1 hg_b HS
                  refine ge hK ⟨HS.out.old H1t.out, c2 (HS.out.old H2t.out), HS.out.c 2 0 (v := .int .i64 x) rfl rfl, HS.out.c 2 1 (v := .int .i64 y) rfl rfl⟩ (fun hHeld => ?_)
                  refine run_d rfl (fun K hK => ?_)
                  refine st1 HS 0 0 #[.int .i64 v.1, .int .i64 v.2] rfl rfl rfl rfl rfl ?_
                  intro w1 HS
                  refine goD hK rfl ?_
                  repeat (first | ((with_reducible refine gate_p ?_); refine rp rfl rfl ?_) | ((with_reducible refine gate_t ?_); refine rt rfl rfl hHeld ?_))
                  refine run_done ?_
                  exact ⟨g_b, rfl, HS⟩
                · skip
                  refine run_e rfl (fun K hK => ?_)
                  refine bx1 34 #[(.int .i64 0), (.int .i64 0)] HS ?_
                  intro g_b w1 hg_b HS
                  refine ge hK ⟨HS.out.old H1t.out, c2 (HS.out.old H2t.out), HS.out.c 2 0 (v := .int .i64 x) rfl rfl, HS.out.c 2 1 (v := .int .i64 y) rfl rfl⟩ (fun hHeld => ?_)
                  refine run_e rfl (fun K hK => ?_)
                  refine gc Try.func122 (HP.out _) rfl rfl ?_
                  rintro e_ w1 ⟨rfl, hb⟩
                  refine ⟨_, rfl, ?_⟩
                  replace HS := sB HS hb
                  refine ge hK ⟨HS.out.old H1t.out, c2 (HS.out.old H2t.out), HS.out.c 2 0 (v := .int .i64 x) rfl rfl, HS.out.c 2 1 (v := .int .i64 y) rfl rfl⟩ (fun hHeld => ?_)
                  repeat (first | ((with_reducible refine gate_p ?_); refine rp rfl rfl ?_) | ((with_reducible refine gate_t ?_); refine rt rfl rfl hHeld ?_))
                  refine run_d rfl (fun K hK => ?_)
                  refine st1 HS 0 0 #[.int .i64 v.1, .int .i64 v.2] rfl rfl rfl rfl rfl ?_
                  intro w1 HS
                  refine goD hK rfl ?_
                  repeat (first | ((with_reducible refine gate_p ?_); refine rp rfl rfl ?_) | ((with_reducible refine gate_t ?_); refine rt rfl rfl hHeld ?_))
                  refine run_done ?_
                  have n_ := HS.out.sel [0, 1, 2] (by decide)
                  simp only [List.filterMap_cons, List.filterMap_nil, List.getElem?_cons_zero, List.getElem?_cons_succ] at n_
                  exact ⟨g_b, rfl, ⟨n_⟩⟩
              clear HS
              rintro a_ w1 ⟨g_b, rfl, HS⟩
              have f1_ := HS.out.c 0 0 (v := .int .i64 v.1) rfl rfl
              have f2_ := HS.out.c 0 1 (v := .int .i64 v.2) rfl rfl
              go_wp2_with (first | ((with_reducible refine gate_store (t := 34) (p := 5) rfl ?_); refine stL HS 2 0 #[.int .i64 v.1, .int .i64 v.2] rfl rfl rfl rfl rfl ?_; clear HS f1_ f2_; intro w1 HS; have f1_ := HS.out.c 2 0 (v := .int .i64 v.1) rfl rfl; have f2_ := HS.out.c 2 1 (v := .int .i64 v.2) rfl rfl) | (go_at_call 108; refine (specZero _ _ _).mono ?_; rintro e_ w1 ⟨rfl, hb⟩; replace HS := sB HS hb; clear hb f1_ f2_) | ((with_reducible refine gate_builtin (b := .append) (xs := #[.tmp 69, .tmp 72]) rfl ?_); at_builtin; refine wpList_stp (fun K hK => ?_); refine stp_rows KT rfl (fun _ _ _ _ _ h => h) (by rfl) HS 1 rfl (.tmp 69) (.tmp 72) 24 (.agg #[(.string ⟨#[]⟩), (.int .i64 0), (.int .i64 0)]) 32 rfl Try.underlying24 infoTerm (by kernel_rfl) (l.drop (k + 1)) rfl rfl (by first | exact C_dropN1 (k := k + 1) (c := c) (HS.out.oldC HR.out) (by omega) hc (by omega) | exact C_dropN2 (k := k + 1) (c := c) (HS.out.oldC HR.out) (by omega) hc (by omega) | exact C_dropN3 (k := k + 1) (c := c) (HS.out.oldC HR.out) (by omega) hc) (by have h_ := hy1 _ Ny1; omega) ?_; clear HS; intro A_y3 c_y3 y3 w1 Ny3 HS; simp only [List.set_cons_zero, List.set_cons_succ] at HS; refine hK _ _ ?_; clear hK K))
              all_goals (go_ret2; have e_ : resP (put l s (x, y)) = (y3, true) := (by rw [HPut.out]; simp [Ny3.out, Ny1.out, HZ.out, resP]); rw [e_]; exact ⟨A_y3, c_y3, rfl, HS.out.sel [1] (by decide)⟩)
            · skip
              have hzb : (v.1 == 0) = false := by simpa using hz
              have HZ := Aside0.mk hz
              clear hz
              have f1_ := HS.out.old H0t.out
              go_wp2_with (first | (go_at_call 109; refine (specBefore t.1 s _ (by omega) (by omega)).mono ?_; rintro e_ w1 ⟨rfl, hb⟩; replace HS := sB HS hb; clear hb f1_) | ((with_reducible refine gate_dst (N := 27) rfl ?_); refine wpList_stp (fun K hK => ?_); refine stp_lit (KT) rfl 38 (by rfl) HS (xs := ([] : Ts)) (inner := []) (by first | (go_simp; done) | (go_simp; rfl)) (fun W base ok => Reps.none _ _) (by simp) ?_; clear HS; intro A_o c_o w1 HS; refine hK _ _ ?_; clear hK K) | ((with_reducible refine gate_builtin (b := .append) (xs := #[.tmp 27, .tmp 30]) rfl ?_); at_builtin; refine wpList_stp (fun K hK => ?_); refine stp_rows KT rfl (fun _ _ _ _ _ h => h) (by rfl) HS 0 (xs := []) rfl (.tmp 27) (.tmp 30) 24 (.agg #[(.string ⟨#[]⟩), (.int .i64 0), (.int .i64 0)]) 32 rfl Try.underlying24 infoTerm (by kernel_rfl) (l.take k) rfl rfl (C_takeN (k := k) (HS.out.oldC HR.out) (by omega)) (by show (0 + k) * 32 ≤ _; omega) ?_; clear HS; intro A_y1 c_y1 y1 w1 Ny1 HS; simp only [List.set_cons_zero, List.set_cons_succ] at HS; refine hK _ _ ?_; clear hK K; have f1_ := HS.out.old H0t.out))
              clear f1_
              replace HS := sD HS
              apply region_told ((fun (A0_ : Nat → Act) (a' : Act) (w' : World) => ∃ (g_b : Nat), a' = A0_ g_b ∧ Aside0 (Mod w w' No [bx g_b 34 #[.int .i64 v.1, .int .i64 v.2], rw' (KT) rfl 38 (.slice A_y1 (y1).length c_y1) (y1), bx g_a 34 #[.int .i64 x, .int .i64 y]])) _)
              case h1 =>
                refine ps (.p 0 (.p 1 (.p 2 (.p 3 (.t 4 (.t 5 (.two 6 10 (.p 7 (.p 8 (.p 9 (.e 10 (.d 11 (.p 12 .done)))))) (.e 6 (.p 7 (.p 8 (.p 9 (.d 11 (.p 12 .done))))))))))))) (fun w' => w'.cell? ⟨(ad_A.add (k * 3)).block, (ad_A.add (k * 3)).off + 1, none⟩ = some (.int .i64 t.2.1) ∧ w'.cell? ⟨(ad_A.add (k * 3)).block, (ad_A.add (k * 3)).off + 1 + 1, none⟩ = some (.int .i64 t.2.2) ∧ w'.cell? ⟨g_a, 0, none⟩ = some (.int .i64 x) ∧ w'.cell? ⟨g_a, 1, none⟩ = some (.int .i64 y)) [11] ⟨HS.out.old H1t.out, c2 (HS.out.old H2t.out), HS.out.c 1 0 (v := .int .i64 x) rfl rfl, HS.out.c 1 1 (v := .int .i64 y) rfl rfl⟩ (fun hHeld => ?_)
                repeat (first | ((with_reducible refine gate_p ?_); refine rp rfl rfl ?_) | ((with_reducible refine gate_t ?_); refine rt rfl rfl hHeld ?_))
                refine run_two ?_ ?_
                · skip
                  refine run_e rfl (fun K hK => ?_)
                  refine gc Try.func122 (HP.out _) rfl rfl ?_
                  rintro e_ w1 ⟨rfl, hb⟩
                  refine ⟨_, rfl, ?_⟩
                  replace HS := sB HS hb
                  refine ge hK ⟨HS.out.old H1t.out, c2 (HS.out.old H2t.out), HS.out.c 1 0 (v := .int .i64 x) rfl rfl, HS.out.c 1 1 (v := .int .i64 y) rfl rfl⟩ (fun hHeld => ?_)
                  repeat (first | ((with_reducible refine gate_p ?_); refine rp rfl rfl ?_) | ((with_reducible refine gate_t ?_); refine rt rfl rfl hHeld ?_))
                  refine run_e rfl (fun K hK => ?_)
                  refine bx1 34 #[(.int .i64 0), (.int .i64 0)] HS ?_
                  intro g_b w1 hg_b HS
                  refine ge hK ⟨HS.out.old H1t.out, c2 (HS.out.old H2t.out), HS.out.c 2 0 (v := .int .i64 x) rfl rfl, HS.out.c 2 1 (v := .int .i64 y) rfl rfl⟩ (fun hHeld => ?_)
                  refine run_d rfl (fun K hK => ?_)
                  refine st1 HS 0 0 #[.int .i64 v.1, .int .i64 v.2] rfl rfl rfl rfl rfl ?_
                  intro w1 HS
                  refine goD hK rfl ?_
                  repeat (first | ((with_reducible refine gate_p ?_); refine rp rfl rfl ?_) | ((with_reducible refine gate_t ?_); refine rt rfl rfl hHeld ?_))
                  refine run_done ?_
                  exact ⟨g_b, rfl, HS⟩
                · skip
                  refine run_e rfl (fun K hK => ?_)
                  refine bx1 34 #[(.int .i64 0), (.int .i64 0)] HS ?_
                  intro g_b w1 hg_b HS
                  refine ge hK ⟨HS.out.old H1t.out, c2 (HS.out.old H2t.out), HS.out.c 2 0 (v := .int .i64 x) rfl rfl, HS.out.c 2 1 (v := .int .i64 y) rfl rfl⟩ (fun hHeld => ?_)
                  refine run_e rfl (fun K hK => ?_)
                  refine gc Try.func122 (HP.out _) rfl rfl ?_
                  rintro e_ w1 ⟨rfl, hb⟩
                  refine ⟨_, rfl, ?_⟩
                  replace HS := sB HS hb
                  refine ge hK ⟨HS.out.old H1t.out, c2 (HS.out.old H2t.out), HS.out.c 2 0 (v := .int .i64 x) rfl rfl, HS.out.c 2 1 (v := .int .i64 y) rfl rfl⟩ (fun hHeld => ?_)
                  repeat (first | ((with_reducible refine gate_p ?_); refine rp rfl rfl ?_) | ((with_reducible refine gate_t ?_); refine rt rfl rfl hHeld ?_))
                  refine run_d rfl (fun K hK => ?_)
                  refine st1 HS 0 0 #[.int .i64 v.1, .int .i64 v.2] rfl rfl rfl rfl rfl ?_
                  intro w1 HS
                  refine goD hK rfl ?_
                  repeat (first | ((with_reducible refine gate_p ?_); refine rp rfl rfl ?_) | ((with_reducible refine gate_t ?_); refine rt rfl rfl hHeld ?_))
                  refine run_done ?_
                  have n_ := HS.out.sel [0, 1, 2] (by decide)
                  simp only [List.filterMap_cons, List.filterMap_nil, List.getElem?_cons_zero, List.getElem?_cons_succ] at n_
                  exact ⟨g_b, rfl, ⟨n_⟩⟩
              clear HS
              rintro a_ w1 ⟨g_b, rfl, HS⟩
              have f1_ := HS.out.c 0 0 (v := .int .i64 v.1) rfl rfl
              have f2_ := HS.out.c 0 1 (v := .int .i64 v.2) rfl rfl
              go_wp2_with (first | ((with_reducible refine gate_store (t := 34) (p := 5) rfl ?_); refine stL HS 2 0 #[.int .i64 v.1, .int .i64 v.2] rfl rfl rfl rfl rfl ?_; clear HS f1_ f2_; intro w1 HS; have f1_ := HS.out.c 2 0 (v := .int .i64 v.1) rfl rfl; have f2_ := HS.out.c 2 1 (v := .int .i64 v.2) rfl rfl) | (go_at_call 108; refine (specZero _ _ _).mono ?_; rintro e_ w1 ⟨rfl, hb⟩; replace HS := sB HS hb; clear hb f1_ f2_; have f1_ := HS.out.c 2 0 (v := .int .i64 v.1) rfl rfl; have f2_ := HS.out.c 2 1 (v := .int .i64 v.2) rfl rfl) | ((with_reducible refine gate_builtin (b := .append) (xs := #[.tmp 63, .tmp 67]) rfl ?_); at_builtin; refine wpList_stp (fun K hK => ?_); refine stp_app (KT) rfl (by rfl) HS 1 rfl (.tmp 63) (.tmp 67) 24 38 (.agg #[(.string ⟨#[]⟩), (.int .i64 0), (.int .i64 0)]) 32 rfl Try.underlying24 infoTerm (by kernel_rfl) (((s, v.1, v.2) : Tm)) [.string s, .int .i64 v.1, .int .i64 v.2] rfl (by first | rfl | (show Value.slice (some ⟨_, 0, none⟩) 1 1 = _; simp)) (KT_M (s, v.1, v.2)) (by have h_ := hy1 _ Ny1; omega) ?_; clear HS f1_ f2_; intro A_y2 c_y2 y2 w1 Ny2 HS; simp only [List.set_cons_zero, List.set_cons_succ] at HS; refine hK _ _ ?_; clear hK K) | ((with_reducible refine gate_builtin (b := .append) (xs := #[.tmp 69, .tmp 72]) rfl ?_); at_builtin; refine wpList_stp (fun K hK => ?_); refine stp_rows KT rfl (fun _ _ _ _ _ h => h) (by rfl) HS 1 rfl (.tmp 69) (.tmp 72) 24 (.agg #[(.string ⟨#[]⟩), (.int .i64 0), (.int .i64 0)]) 32 rfl Try.underlying24 infoTerm (by kernel_rfl) (l.drop (k + 1)) rfl rfl (by first | exact C_dropN1 (k := k + 1) (c := c) (HS.out.oldC HR.out) (by omega) hc (by omega) | exact C_dropN2 (k := k + 1) (c := c) (HS.out.oldC HR.out) (by omega) hc (by omega) | exact C_dropN3 (k := k + 1) (c := c) (HS.out.oldC HR.out) (by omega) hc) (by have h_ := hy2 _ _ Ny1 Ny2; omega) ?_; clear HS; intro A_y3 c_y3 y3 w1 Ny3 HS; simp only [List.set_cons_zero, List.set_cons_succ] at HS; refine hK _ _ ?_; clear hK K))
              all_goals (go_ret2; have e_ : resP (put l s (x, y)) = (y3, true) := (by rw [HPut.out]; simp [Ny3.out, Ny2.out, Ny1.out, HZ.out, resP]); rw [e_]; exact ⟨A_y3, c_y3, rfl, HS.out.sel [1] (by decide)⟩)
        · have hse : (t.1.toList == s.toList) = false := by rw [str_eq]; exact decide_eq_false he
          have HPut := Aside0.mk (HN.out hbf he)
          by_cases hz : x = 0
          · skip
            have hzb : (x == 0) = true := by rw [hz]; rfl
            have HZ := Aside0.mk hz
            clear hz
            have f1_ := HS.out.old H0t.out
            go_wp2_with (first | (go_at_call 109; refine (specBefore t.1 s _ (by omega) (by omega)).mono ?_; rintro e_ w1 ⟨rfl, hb⟩; replace HS := sB HS hb; clear hb f1_) | ((with_reducible refine gate_dst (N := 27) rfl ?_); refine wpList_stp (fun K hK => ?_); refine stp_lit (KT) rfl 38 (by rfl) HS (xs := ([] : Ts)) (inner := []) (by first | (go_simp; done) | (go_simp; rfl)) (fun W base ok => Reps.none _ _) (by simp) ?_; clear HS; intro A_o c_o w1 HS; refine hK _ _ ?_; clear hK K) | ((with_reducible refine gate_builtin (b := .append) (xs := #[.tmp 27, .tmp 30]) rfl ?_); at_builtin; refine wpList_stp (fun K hK => ?_); refine stp_rows KT rfl (fun _ _ _ _ _ h => h) (by rfl) HS 0 (xs := []) rfl (.tmp 27) (.tmp 30) 24 (.agg #[(.string ⟨#[]⟩), (.int .i64 0), (.int .i64 0)]) 32 rfl Try.underlying24 infoTerm (by kernel_rfl) (l.take k) rfl rfl (C_takeN (k := k) (HS.out.oldC HR.out) (by omega)) (by show (0 + k) * 32 ≤ _; omega) ?_; clear HS; intro A_y1 c_y1 y1 w1 Ny1 HS; simp only [List.set_cons_zero, List.set_cons_succ] at HS; refine hK _ _ ?_; clear hK K; have f1_ := HS.out.old H0t.out; have f2_ := HS.out.c 1 0 (v := .int .i64 x) rfl rfl; have f3_ := HS.out.c 1 1 (v := .int .i64 y) rfl rfl) | (go_at_call 108; refine (specZero _ _ _).mono ?_; rintro e_ w1 ⟨rfl, hb⟩; replace HS := sB HS hb; clear hb f1_ f2_ f3_) | ((with_reducible refine gate_builtin (b := .append) (xs := #[.tmp 69, .tmp 72]) rfl ?_); at_builtin; refine wpList_stp (fun K hK => ?_); refine stp_rows KT rfl (fun _ _ _ _ _ h => h) (by rfl) HS 0 rfl (.tmp 69) (.tmp 72) 24 (.agg #[(.string ⟨#[]⟩), (.int .i64 0), (.int .i64 0)]) 32 rfl Try.underlying24 infoTerm (by kernel_rfl) (l.drop (k)) rfl rfl (by first | exact C_dropN1 (k := k) (c := c) (HS.out.oldC HR.out) (by omega) hc (by omega) | exact C_dropN2 (k := k) (c := c) (HS.out.oldC HR.out) (by omega) hc (by omega) | exact C_dropN3 (k := k) (c := c) (HS.out.oldC HR.out) (by omega) hc) (by have h_ := hy1 _ Ny1; omega) ?_; clear HS; intro A_y3 c_y3 y3 w1 Ny3 HS; simp only [List.set_cons_zero, List.set_cons_succ] at HS; refine hK _ _ ?_; clear hK K))
            all_goals (go_ret2; have e_ : resP (put l s (x, y)) = (y3, true) := (by rw [HPut.out]; simp [Ny3.out, Ny1.out, HZ.out, resP]); rw [e_]; exact ⟨A_y3, c_y3, rfl, HS.out.sel [0] (by decide)⟩)
          · skip
            have hzb : (x == 0) = false := by simpa using hz
            have HZ := Aside0.mk hz
            clear hz
            have f1_ := HS.out.old H0t.out
            go_wp2_with (first | (go_at_call 109; refine (specBefore t.1 s _ (by omega) (by omega)).mono ?_; rintro e_ w1 ⟨rfl, hb⟩; replace HS := sB HS hb; clear hb f1_) | ((with_reducible refine gate_dst (N := 27) rfl ?_); refine wpList_stp (fun K hK => ?_); refine stp_lit (KT) rfl 38 (by rfl) HS (xs := ([] : Ts)) (inner := []) (by first | (go_simp; done) | (go_simp; rfl)) (fun W base ok => Reps.none _ _) (by simp) ?_; clear HS; intro A_o c_o w1 HS; refine hK _ _ ?_; clear hK K) | ((with_reducible refine gate_builtin (b := .append) (xs := #[.tmp 27, .tmp 30]) rfl ?_); at_builtin; refine wpList_stp (fun K hK => ?_); refine stp_rows KT rfl (fun _ _ _ _ _ h => h) (by rfl) HS 0 (xs := []) rfl (.tmp 27) (.tmp 30) 24 (.agg #[(.string ⟨#[]⟩), (.int .i64 0), (.int .i64 0)]) 32 rfl Try.underlying24 infoTerm (by kernel_rfl) (l.take k) rfl rfl (C_takeN (k := k) (HS.out.oldC HR.out) (by omega)) (by show (0 + k) * 32 ≤ _; omega) ?_; clear HS; intro A_y1 c_y1 y1 w1 Ny1 HS; simp only [List.set_cons_zero, List.set_cons_succ] at HS; refine hK _ _ ?_; clear hK K; have f1_ := HS.out.old H0t.out; have f2_ := HS.out.c 1 0 (v := .int .i64 x) rfl rfl; have f3_ := HS.out.c 1 1 (v := .int .i64 y) rfl rfl) | (go_at_call 108; refine (specZero _ _ _).mono ?_; rintro e_ w1 ⟨rfl, hb⟩; replace HS := sB HS hb; clear hb f1_ f2_ f3_; have f1_ := HS.out.c 1 0 (v := .int .i64 x) rfl rfl; have f2_ := HS.out.c 1 1 (v := .int .i64 y) rfl rfl) | ((with_reducible refine gate_builtin (b := .append) (xs := #[.tmp 63, .tmp 67]) rfl ?_); at_builtin; refine wpList_stp (fun K hK => ?_); refine stp_app (KT) rfl (by rfl) HS 0 rfl (.tmp 63) (.tmp 67) 24 38 (.agg #[(.string ⟨#[]⟩), (.int .i64 0), (.int .i64 0)]) 32 rfl Try.underlying24 infoTerm (by kernel_rfl) (((s, x, y) : Tm)) [.string s, .int .i64 x, .int .i64 y] rfl (by first | rfl | (show Value.slice (some ⟨_, 0, none⟩) 1 1 = _; simp)) (KT_M (s, x, y)) (by have h_ := hy1 _ Ny1; omega) ?_; clear HS f1_ f2_; intro A_y2 c_y2 y2 w1 Ny2 HS; simp only [List.set_cons_zero, List.set_cons_succ] at HS; refine hK _ _ ?_; clear hK K) | ((with_reducible refine gate_builtin (b := .append) (xs := #[.tmp 69, .tmp 72]) rfl ?_); at_builtin; refine wpList_stp (fun K hK => ?_); refine stp_rows KT rfl (fun _ _ _ _ _ h => h) (by rfl) HS 0 rfl (.tmp 69) (.tmp 72) 24 (.agg #[(.string ⟨#[]⟩), (.int .i64 0), (.int .i64 0)]) 32 rfl Try.underlying24 infoTerm (by kernel_rfl) (l.drop (k)) rfl rfl (by first | exact C_dropN1 (k := k) (c := c) (HS.out.oldC HR.out) (by omega) hc (by omega) | exact C_dropN2 (k := k) (c := c) (HS.out.oldC HR.out) (by omega) hc (by omega) | exact C_dropN3 (k := k) (c := c) (HS.out.oldC HR.out) (by omega) hc) (by have h_ := hy2 _ _ Ny1 Ny2; omega) ?_; clear HS; intro A_y3 c_y3 y3 w1 Ny3 HS; simp only [List.set_cons_zero, List.set_cons_succ] at HS; refine hK _ _ ?_; clear hK K))
            all_goals (go_ret2; have e_ : resP (put l s (x, y)) = (y3, true) := (by rw [HPut.out]; simp [Ny3.out, Ny2.out, Ny1.out, HZ.out, resP]); rw [e_]; exact ⟨A_y3, c_y3, rfl, HS.out.sel [0] (by decide)⟩)
    · obtain rfl : k = l.length := by omega
      have HPut := Aside0.mk (put_end (s := s) (a := (x, y)) HB.out)
      by_cases hz : x = 0
      · skip
        have hzb : (x == 0) = true := by rw [hz]; rfl
        have HZ := Aside0.mk hz
        clear hz
        go_wp2_with (first | ((with_reducible refine gate_dst (N := 27) rfl ?_); refine wpList_stp (fun K hK => ?_); refine stp_lit (KT) rfl 38 (by rfl) HS (xs := ([] : Ts)) (inner := []) (by first | (go_simp; done) | (go_simp; rfl)) (fun W base ok => Reps.none _ _) (by simp) ?_; clear HS; intro A_o c_o w1 HS; refine hK _ _ ?_; clear hK K) | ((with_reducible refine gate_builtin (b := .append) (xs := #[.tmp 27, .tmp 30]) rfl ?_); at_builtin; refine wpList_stp (fun K hK => ?_); refine stp_rows KT rfl (fun _ _ _ _ _ h => h) (by rfl) HS 0 (xs := []) rfl (.tmp 27) (.tmp 30) 24 (.agg #[(.string ⟨#[]⟩), (.int .i64 0), (.int .i64 0)]) 32 rfl Try.underlying24 infoTerm (by kernel_rfl) (l.take l.length) rfl rfl (C_takeN (k := l.length) (HS.out.oldC HR.out) (by omega)) (by show (0 + l.length) * 32 ≤ _; omega) ?_; clear HS; intro A_y1 c_y1 y1 w1 Ny1 HS; simp only [List.set_cons_zero, List.set_cons_succ] at HS; refine hK _ _ ?_; clear hK K; have f1_ := HS.out.c 1 0 (v := .int .i64 x) rfl rfl; have f2_ := HS.out.c 1 1 (v := .int .i64 y) rfl rfl) | (go_at_call 108; refine (specZero _ _ _).mono ?_; rintro e_ w1 ⟨rfl, hb⟩; replace HS := sB HS hb; clear hb f1_ f2_) | ((with_reducible refine gate_builtin (b := .append) (xs := #[.tmp 69, .tmp 72]) rfl ?_); at_builtin; refine wpList_stp (fun K hK => ?_); refine stp_rows KT rfl (fun _ _ _ _ _ h => h) (by rfl) HS 0 rfl (.tmp 69) (.tmp 72) 24 (.agg #[(.string ⟨#[]⟩), (.int .i64 0), (.int .i64 0)]) 32 rfl Try.underlying24 infoTerm (by kernel_rfl) ([] : Ts) rfl rfl C_zero (by have h_ := hy1 _ Ny1; omega) ?_; clear HS; intro A_y3 c_y3 y3 w1 Ny3 HS; simp only [List.set_cons_zero, List.set_cons_succ] at HS; refine hK _ _ ?_; clear hK K))
        all_goals (go_ret2; have e_ : resP (put l s (x, y)) = (y3, true) := (by rw [HPut.out]; simp [Ny3.out, Ny1.out, HZ.out, resP]); rw [e_]; exact ⟨A_y3, c_y3, rfl, HS.out.sel [0] (by decide)⟩)
      · skip
        have hzb : (x == 0) = false := by simpa using hz
        have HZ := Aside0.mk hz
        clear hz
        go_wp2_with (first | ((with_reducible refine gate_dst (N := 27) rfl ?_); refine wpList_stp (fun K hK => ?_); refine stp_lit (KT) rfl 38 (by rfl) HS (xs := ([] : Ts)) (inner := []) (by first | (go_simp; done) | (go_simp; rfl)) (fun W base ok => Reps.none _ _) (by simp) ?_; clear HS; intro A_o c_o w1 HS; refine hK _ _ ?_; clear hK K) | ((with_reducible refine gate_builtin (b := .append) (xs := #[.tmp 27, .tmp 30]) rfl ?_); at_builtin; refine wpList_stp (fun K hK => ?_); refine stp_rows KT rfl (fun _ _ _ _ _ h => h) (by rfl) HS 0 (xs := []) rfl (.tmp 27) (.tmp 30) 24 (.agg #[(.string ⟨#[]⟩), (.int .i64 0), (.int .i64 0)]) 32 rfl Try.underlying24 infoTerm (by kernel_rfl) (l.take l.length) rfl rfl (C_takeN (k := l.length) (HS.out.oldC HR.out) (by omega)) (by show (0 + l.length) * 32 ≤ _; omega) ?_; clear HS; intro A_y1 c_y1 y1 w1 Ny1 HS; simp only [List.set_cons_zero, List.set_cons_succ] at HS; refine hK _ _ ?_; clear hK K; have f1_ := HS.out.c 1 0 (v := .int .i64 x) rfl rfl; have f2_ := HS.out.c 1 1 (v := .int .i64 y) rfl rfl) | (go_at_call 108; refine (specZero _ _ _).mono ?_; rintro e_ w1 ⟨rfl, hb⟩; replace HS := sB HS hb; clear hb f1_ f2_; have f1_ := HS.out.c 1 0 (v := .int .i64 x) rfl rfl; have f2_ := HS.out.c 1 1 (v := .int .i64 y) rfl rfl) | ((with_reducible refine gate_builtin (b := .append) (xs := #[.tmp 63, .tmp 67]) rfl ?_); at_builtin; refine wpList_stp (fun K hK => ?_); refine stp_app (KT) rfl (by rfl) HS 0 rfl (.tmp 63) (.tmp 67) 24 38 (.agg #[(.string ⟨#[]⟩), (.int .i64 0), (.int .i64 0)]) 32 rfl Try.underlying24 infoTerm (by kernel_rfl) (((s, x, y) : Tm)) [.string s, .int .i64 x, .int .i64 y] rfl (by first | rfl | (show Value.slice (some ⟨_, 0, none⟩) 1 1 = _; simp)) (KT_M (s, x, y)) (by have h_ := hy1 _ Ny1; omega) ?_; clear HS f1_ f2_; intro A_y2 c_y2 y2 w1 Ny2 HS; simp only [List.set_cons_zero, List.set_cons_succ] at HS; refine hK _ _ ?_; clear hK K) | ((with_reducible refine gate_builtin (b := .append) (xs := #[.tmp 69, .tmp 72]) rfl ?_); at_builtin; refine wpList_stp (fun K hK => ?_); refine stp_rows KT rfl (fun _ _ _ _ _ h => h) (by rfl) HS 0 rfl (.tmp 69) (.tmp 72) 24 (.agg #[(.string ⟨#[]⟩), (.int .i64 0), (.int .i64 0)]) 32 rfl Try.underlying24 infoTerm (by kernel_rfl) ([] : Ts) rfl rfl C_zero (by have h_ := hy2 _ _ Ny1 Ny2; omega) ?_; clear HS; intro A_y3 c_y3 y3 w1 Ny3 HS; simp only [List.set_cons_zero, List.set_cons_succ] at HS; refine hK _ _ ?_; clear hK K))
        all_goals (go_ret2; have e_ : resP (put l s (x, y)) = (y3, true) := (by rw [HPut.out]; simp [Ny3.out, Ny2.out, Ny1.out, HZ.out, resP]); rw [e_]; exact ⟨A_y3, c_y3, rfl, HS.out.sel [0] (by decide)⟩)
end Go.Proofs.Ytibjkjhpfmmjoaa.H



namespace Go.Proofs.Ytibjkjhpfmmjoaa.M
/-- The sign of a length. -/
def sgI (m : Nat) : Int := if m % 2 = 1 then -1 else 1
end Go.Proofs.Ytibjkjhpfmmjoaa.M
namespace Go.Proofs.Ytibjkjhpfmmjoaa.H
open Go.RowKit Go.Proofs.YtibjkjhpfmmjoaaW.PrintWords Go.Proofs.YtibjkjhpfmmjoaaW.PrintLast Go.Proofs.YtibjkjhpfmmjoaaW.PrintMore Go.Proofs.Ytibjkjhpfmmjoaa.M
attribute [local go_sem] max2_int min2_int max_two min_two max_three min_three max_four min_four
theorem implSign (m : Nat) (hm : m ≤ 6) (w : World) : Calls Try.prog 103 #[.int .i64 (m : Int)] w fun e w' => e = .returned (.int .i64 (sgI m)) ∧ Below w.heap.size w w' := by
  have HS := Aside0.mk (Sep.refl w)
  have h : m = 0 ∨ m = 1 ∨ m = 2 ∨ m = 3 ∨ m = 4 ∨ m = 5 ∨ m = 6 := by omega
  rcases h with rfl | rfl | rfl | rfl | rfl | rfl | rfl
  all_goals
    go_enter Try.func103, Try.ntmps103
    go_wp2
    go_ret
    exact ⟨rfl, Below.refl _ _⟩
end Go.Proofs.Ytibjkjhpfmmjoaa.H



