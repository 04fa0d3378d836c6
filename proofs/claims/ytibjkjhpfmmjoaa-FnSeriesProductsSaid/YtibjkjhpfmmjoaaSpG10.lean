/- Plain facts and contracts of functions that the law's walk uses. Conditions: those that stand in each statement. -/
import Derived.Test.YtibjkjhpfmmjoaaSpG1
import Derived.Test.YtibjkjhpfmmjoaaSpG5
import Derived.Test.YtibjkjhpfmmjoaaSpG6
import Derived.Test.YtibjkjhpfmmjoaaSpG7
namespace Go.Proofs.Ytibjkjhpfmmjoaa.M
def resP : Option Ts → Ts × Bool
  | none => ([], false)
  | some y => (y, true)
theorem put_eq {l : Ts} {s : ByteArray} {a : Fr} {k : Nat} (hb : ∀ j, j < k → bef (l.getD j H.zT).1 s = true) (hk : k < l.length) (h1 : bef (l.getD k H.zT).1 s = false) (h2 : (l.getD k H.zT).1 = s) :
    put l s a = (add (l.getD k H.zT).2 a).map fun c => l.take k ++ ((if c.1 = 0 then [] else [(s, c)]) ++ l.drop (k + 1)) := by
  induction l generalizing k with
  | nil => cases hk
  | cons t r ih =>
    cases k with
    | zero =>
      rw [List.getD_cons_zero] at h1 h2 ⊢
      rw [put, if_neg (by rw [h1]; decide), if_pos h2]
      congr 1
      funext c
      by_cases h : c.1 = 0 <;> simp [h]
    | succ k =>
      rw [List.getD_cons_succ] at h1 h2 ⊢
      have h0 := hb 0 (by omega)
      rw [List.getD_cons_zero] at h0
      rw [put, if_pos h0, ih (k := k) (fun j hj => by have := hb (j + 1) (by omega); rwa [List.getD_cons_succ] at this) (by simpa using hk) h1 h2]
      cases add (r.getD k H.zT).2 a <;> rfl
theorem put_ne {l : Ts} {s : ByteArray} {a : Fr} {k : Nat} (hb : ∀ j, j < k → bef (l.getD j H.zT).1 s = true) (hk : k < l.length) (h1 : bef (l.getD k H.zT).1 s = false) (h2 : (l.getD k H.zT).1 ≠ s) :
    put l s a = some (l.take k ++ ((if a.1 = 0 then [] else [(s, a)]) ++ l.drop k)) := by
  induction l generalizing k with
  | nil => cases hk
  | cons t r ih =>
    cases k with
    | zero =>
      rw [List.getD_cons_zero] at h1 h2
      rw [put, if_neg (by rw [h1]; decide), if_neg h2]
      by_cases h : a.1 = 0 <;> simp [h]
    | succ k =>
      rw [List.getD_cons_succ] at h1 h2
      have h0 := hb 0 (by omega)
      rw [List.getD_cons_zero] at h0
      rw [put, if_pos h0, ih (k := k) (fun j hj => by have := hb (j + 1) (by omega); rwa [List.getD_cons_succ] at this) (by simpa using hk) h1 h2]
      rfl
theorem put_end {l : Ts} {s : ByteArray} {a : Fr} (hb : ∀ j, j < l.length → bef (l.getD j H.zT).1 s = true) : put l s a = some (l ++ (if a.1 = 0 then [] else [(s, a)])) := by
  induction l with
  | nil => rfl
  | cons t r ih =>
    have h0 := hb 0 (by simp)
    rw [List.getD_cons_zero] at h0
    rw [put, if_pos h0, ih (fun j hj => by have := hb (j + 1) (by simpa using hj); rwa [List.getD_cons_succ] at this)]
    rfl
end Go.Proofs.Ytibjkjhpfmmjoaa.M
namespace Go.Proofs.Ytibjkjhpfmmjoaa.H
open Go.RowKit Go.Proofs.YtibjkjhpfmmjoaaW.PrintWords Go.Proofs.YtibjkjhpfmmjoaaW.PrintLast Go.Proofs.YtibjkjhpfmmjoaaW.PrintMore Go.Proofs.Ytibjkjhpfmmjoaa.M
attribute [local go_sem] max2_int min2_int max_two min_two max_three min_three max_four min_four
set_option linter.unusedVariables false
set_option linter.unusedSimpArgs false
set_option maxRecDepth 100000
theorem C_takeN {W : World} {A : Option Addr} {l : Ts} {k : Nat} (h : KT.C W A l.length l) (hk : k ≤ l.length) : KT.C W A k (l.take k) := by
  have := Kd.C_take (m := k) h hk
  rwa [show (l.take k).length = k by rw [List.length_take]; omega] at this
theorem C_zero {W : World} {A : Option Addr} : KT.C W A 0 ([] : Ts) := ⟨rfl, by omega, fun h => absurd h (Nat.lt_irrefl 0)⟩
theorem C_dropN1 {W : World} {A : Option Addr} {l : Ts} {k c : Nat} (h : KT.C W A l.length l) (hk : k ≤ l.length) (hc : l.length ≤ c) (hck : c = k) : KT.C W A (l.length - k) (l.drop k) := by
  have := Kd.C_drop (m := k) (c := c) h hk hc
  rwa [List.length_drop, if_pos hck] at this
theorem C_dropN2 {W : World} {A : Option Addr} {l : Ts} {k c : Nat} (h : KT.C W A l.length l) (hk : k ≤ l.length) (hc : l.length ≤ c) (hck : ¬ c = k) : KT.C W (A.map (·.add (k * 3))) (l.length - k) (l.drop k) := by
  have := Kd.C_drop (m := k) (c := c) h hk hc
  rwa [List.length_drop, if_neg hck] at this
theorem C_dropN3 {W : World} {A : Option Addr} {l : Ts} {k c : Nat} (h : KT.C W A l.length l) (hk : k ≤ l.length) (hc : l.length ≤ c) : KT.C W (if c = k then A else A.map (·.add (k * 3))) (l.length - k) (l.drop k) := by
  have := Kd.C_drop (m := k) (c := c) h hk hc
  rwa [List.length_drop] at this
set_option maxHeartbeats 16000000 in
theorem specPut (A : Option Addr) (c : Nat) (l : Ts) (s : ByteArray) (x y : Int) (w : World) (hr : KT.C w A l.length l) (hc : l.length ≤ c) (hb : bnd l = true) (hsm : ∀ t ∈ l, small t.2) (hs : s.size ≤ 1048576) (ha : small (x, y)) :
    Calls Try.prog 110 #[.slice A l.length c, .string s, .agg #[.int .i64 x, .int .i64 y]] w fun e w' => ∃ B b, e = .returned (.tuple #[.slice B (resP (put l s (x, y))).1.length b, .bool (resP (put l s (x, y))).2]) ∧ Sep w w' [rowT B b (resP (put l s (x, y))).1] := by
  have HR := Aside0.mk hr
  have hll := (bnd_iff.1 hb).1
  have HZS := Aside0.mk (fun j => bnd_get hb j)
  have HSM := Aside0.mk (fun k (h : k < l.length) => (by rw [getD_lt l zT k h]; exact hsm _ (List.getElem_mem h) : small (l.getD k zT).2))
  have HA := Aside0.mk ha
  have HS := Aside0.mk (Sep.refl w)
  clear hr hb hsm ha
  go_enter Try.func110, Try.ntmps110
  go_wp2_with (first | ((with_reducible refine gate_dst (N := 5) rfl ?_); refine bxL 34 #[.int .i64 x, .int .i64 y] HS ?_; clear HS; intro g_a w1 hg_a HS))
  go_loopw [8] (fun v w' => ∃ k : Nat, k ≤ l.length ∧ v = .int .i64 (k : Int) ∧ Aside0 (∀ j, j < k → bef (l.getD j zT).1 s = true) ∧ Aside0 (Mod w w' No [bx g_a 34 #[.int .i64 x, .int .i64 y]])) (fun v _ => l.length - (intOf v).toNat)
  case atStart => exact ⟨0, by omega, rfl, ⟨fun _ h => by omega⟩, HS⟩
  case round =>
    clear HS
    obtain ⟨k, hk, rfl, HB, HS⟩ := hrel
    have HKT := Aside0.mk (show (l.take k).length = k by rw [List.length_take]; omega)
    have hy1 : ∀ y : Ts, Aside0 (y = [] ++ l.take k) → y.length ≤ 1048576 := fun y h => by rw [h.out, List.nil_append, HKT.out]; omega
    have hy2 : ∀ (y z : Ts) {p : Tm}, Aside0 (y = [] ++ l.take k) → Aside0 (z = y ++ [p]) → z.length ≤ 1048577 := fun y z p h h2 => by rw [h2.out, List.length_append]; have := hy1 y h; simp; omega
    by_cases hlt : k < l.length
    · have HG := Aside0.mk (fun b e => put_eq HB.out hlt (a := (x, y)) b e)
      have HN := Aside0.mk (fun b e => put_ne HB.out hlt (a := (x, y)) b e)
      have hsz := HZS.out k
      have hsm := HSM.out k hlt
      obtain ⟨ad_A, ea_, h0_, h1_, h2_⟩ := tm_at HR.out k (hlt)
      cases ea_
      obtain ⟨t, ht_⟩ : ∃ t_, t_ = l.getD k zT := ⟨_, rfl⟩
      rw [← ht_] at h0_ h1_ h2_
      have Et := Aside0.mk ht_; have H0t := Aside0.mk h0_; have H1t := Aside0.mk h1_; have H2t := Aside0.mk h2_
      clear ht_ h0_ h1_ h2_
      rw [← Et.out] at hsz hsm HG HN
      cases hbf : bef t.1 s with
      | true =>
        have f1_ := HS.out.old H0t.out
        go_wp2_with (first | (go_at_call 109; refine (specBefore t.1 s _ (by omega) (by omega)).mono ?_; rintro e_ w1 ⟨rfl, hb⟩; replace HS := sB HS hb; clear hb f1_))
        go_roundw
        case rel => exact ⟨k + 1, by omega, by go_num, ⟨round_next HB.out (by rw [← Et.out]; exact hbf)⟩, HS⟩
        case measure => simp [intOf]; omega
      | false =>
        by_cases he : t.1 = s
        · have hse : (t.1.toList == s.toList) = true := by rw [he]; simp
          obtain ⟨o, ho⟩ : ∃ o, o = add t.2 (x, y) := ⟨_, rfl⟩
          have HP := Aside0.mk (fun W => ho ▸ specPlus t.2.1 t.2.2 x y W hsm HA.out)
          have HPut := Aside0.mk (HG.out hbf he)
          rw [← ho] at HPut
          clear ho he
          cases o with
          | none =>
            have f1_ := HS.out.old H0t.out
            go_wp2_with (first | (go_at_call 109; refine (specBefore t.1 s _ (by omega) (by omega)).mono ?_; rintro e_ w1 ⟨rfl, hb⟩; replace HS := sB HS hb; clear hb f1_) | ((with_reducible refine gate_dst (N := 27) rfl ?_); refine wpList_stp (fun K hK => ?_); refine stp_lit (KT) rfl 38 (by rfl) HS (xs := ([] : Ts)) (inner := []) (by first | (go_simp; done) | (go_simp; rfl)) (fun W base ok => Reps.none _ _) (by simp) ?_; clear HS; intro A_o c_o w1 HS; refine hK _ _ ?_; clear hK K) | ((with_reducible refine gate_builtin (b := .append) (xs := #[.tmp 27, .tmp 30]) rfl ?_); at_builtin; refine wpList_stp (fun K hK => ?_); refine stp_rows KT rfl (fun _ _ _ _ _ h => h) (by rfl) HS 0 (xs := []) rfl (.tmp 27) (.tmp 30) 24 (.agg #[(.string ⟨#[]⟩), (.int .i64 0), (.int .i64 0)]) 32 rfl Try.underlying24 infoTerm (by kernel_rfl) (l.take k) rfl rfl (C_takeN (k := k) (HS.out.oldC HR.out) (by omega)) (by show (0 + k) * 32 ≤ _; omega) ?_; clear HS; intro A_y1 c_y1 y1 w1 Ny1 HS; simp only [List.set_cons_zero, List.set_cons_succ] at HS; refine hK _ _ ?_; clear hK K; have f1_ := HS.out.old H0t.out))
            clear f1_
            replace HS := sD HS
            apply region_told ((fun (A0_ : Nat → Act) (a' : Act) (w' : World) => ∃ (g_b : Nat), a' = A0_ g_b ∧ Aside0 (Mod w w' No [bx g_b 34 #[.int .i64 0, .int .i64 0], rw' (KT) rfl 38 (.slice A_y1 (y1).length c_y1) (y1), bx g_a 34 #[.int .i64 x, .int .i64 y]])) _)
            case h1 =>
              refine ps (.p 0 (.p 1 (.p 2 (.p 3 (.t 4 (.t 5 (.two 6 10 (.p 7 (.p 8 (.p 9 (.e 10 (.d 11 (.p 12 .done)))))) (.e 6 (.p 7 (.p 8 (.p 9 (.d 11 (.p 12 .done))))))))))))) (fun w' => w'.cell? ⟨(ad_A.add (k * 3)).block, (ad_A.add (k * 3)).off + 1, none⟩ = some (.int .i64 t.2.1) ∧ w'.cell? ⟨(ad_A.add (k * 3)).block, (ad_A.add (k * 3)).off + 1 + 1, none⟩ = some (.int .i64 t.2.2) ∧ w'.cell? ⟨g_a, 0, none⟩ = some (.int .i64 x) ∧ w'.cell? ⟨g_a, 1, none⟩ = some (.int .i64 y)) [11] ⟨HS.out.old H1t.out, c2 (HS.out.old H2t.out), HS.out.c 1 0 (v := .int .i64 x) rfl rfl, HS.out.c 1 1 (v := .int .i64 y) rfl rfl⟩ (fun hHeld => ?_)
              repeat (first | ((with_reducible refine gate_p ?_); refine rp rfl rfl ?_) | ((with_reducible refine gate_t ?_); refine rt rfl rfl hHeld ?_))
              refine run_two ?_ ?_
              · skip
                refine run_e rfl (fun K hK => ?_)
                refine gc Try.func122 (HP.out _) rfl rfl ?_
                rintro e_ w1 ⟨rfl, hb⟩
                refine ⟨_, rfl, ?_⟩
                replace HS := sB HS hb
                refine ge hK ⟨HS.out.old H1t.out, c2 (HS.out.old H2t.out), HS.out.c 1 0 (v := .int .i64 x) rfl rfl, HS.out.c 1 1 (v := .int .i64 y) rfl rfl⟩ (fun hHeld => ?_)
                repeat (first | ((with_reducible refine gate_p ?_); refine rp rfl rfl ?_) | ((with_reducible refine gate_t ?_); refine rt rfl rfl hHeld ?_))
                refine run_e rfl (fun K hK => ?_)
                refine bx1 34 #[(.int .i64 0), (.int .i64 0)] HS ?_
                intro g_b w1 hg_b HS
                refine ge hK ⟨HS.out.old H1t.out, c2 (HS.out.old H2t.out), HS.out.c 2 0 (v := .int .i64 x) rfl rfl, HS.out.c 2 1 (v := .int .i64 y) rfl rfl⟩ (fun hHeld => ?_)
                refine run_d rfl (fun K hK => ?_)
                refine st1 HS 0 0 #[.int .i64 0, .int .i64 0] rfl rfl rfl rfl rfl ?_
                intro w1 HS
                refine goD hK rfl ?_
                repeat (first | ((with_reducible refine gate_p ?_); refine rp rfl rfl ?_) | ((with_reducible refine gate_t ?_); refine rt rfl rfl hHeld ?_))
                refine run_done ?_
                exact ⟨g_b, rfl, HS⟩
              · skip
                refine run_e rfl (fun K hK => ?_)
                refine bx1 34 #[(.int .i64 0), (.int .i64 0)] HS ?_
                intro g_b w1 hg_b HS
                refine ge hK ⟨HS.out.old H1t.out, c2 (HS.out.old H2t.out), HS.out.c 2 0 (v := .int .i64 x) rfl rfl, HS.out.c 2 1 (v := .int .i64 y) rfl rfl⟩ (fun hHeld => ?_)
                refine run_e rfl (fun K hK => ?_)
                refine gc Try.func122 (HP.out _) rfl rfl ?_
                rintro e_ w1 ⟨rfl, hb⟩
                refine ⟨_, rfl, ?_⟩
                replace HS := sB HS hb
                refine ge hK ⟨HS.out.old H1t.out, c2 (HS.out.old H2t.out), HS.out.c 2 0 (v := .int .i64 x) rfl rfl, HS.out.c 2 1 (v := .int .i64 y) rfl rfl⟩ (fun hHeld => ?_)
                repeat (first | ((with_reducible refine gate_p ?_); refine rp rfl rfl ?_) | ((with_reducible refine gate_t ?_); refine rt rfl rfl hHeld ?_))
                refine run_d rfl (fun K hK => ?_)
                refine st1 HS 0 0 #[.int .i64 0, .int .i64 0] rfl rfl rfl rfl rfl ?_
                intro w1 HS
                refine goD hK rfl ?_
                repeat (first | ((with_reducible refine gate_p ?_); refine rp rfl rfl ?_) | ((with_reducible refine gate_t ?_); refine rt rfl rfl hHeld ?_))
                refine run_done ?_
                have n_ := HS.out.sel [0, 1, 2] (by decide)
                simp only [List.filterMap_cons, List.filterMap_nil, List.getElem?_cons_zero, List.getElem?_cons_succ] at n_
                exact ⟨g_b, rfl, ⟨n_⟩⟩
            clear HS
            rintro a_ w1 ⟨g_b, rfl, HS⟩
            go_wp2
            go_ret2
            have e_ : resP (put l s (x, y)) = ([], false) := by rw [HPut.out]; rfl
            rw [e_]
            exact ⟨none, 0, rfl, nilS (HS.out.sel [] (by decide))⟩
          | some v =>
            by_cases hz : v.1 = 0
            · skip
              have hzb : (v.1 == 0) = true := by rw [hz]; rfl
              have HZ := Aside0.mk hz
              clear hz
              have f1_ := HS.out.old H0t.out
              go_wp2_with (first | (go_at_call 109; refine (specBefore t.1 s _ (by omega) (by omega)).mono ?_; rintro e_ w1 ⟨rfl, hb⟩; replace HS := sB HS hb; clear hb f1_) | ((with_reducible refine gate_dst (N := 27) rfl ?_); refine wpList_stp (fun K hK => ?_); refine stp_lit (KT) rfl 38 (by rfl) HS (xs := ([] : Ts)) (inner := []) (by first | (go_simp; done) | (go_simp; rfl)) (fun W base ok => Reps.none _ _) (by simp) ?_; clear HS; intro A_o c_o w1 HS; refine hK _ _ ?_; clear hK K) | ((with_reducible refine gate_builtin (b := .append) (xs := #[.tmp 27, .tmp 30]) rfl ?_); at_builtin; refine wpList_stp (fun K hK => ?_); refine stp_rows KT rfl (fun _ _ _ _ _ h => h) (by rfl) HS 0 (xs := []) rfl (.tmp 27) (.tmp 30) 24 (.agg #[(.string ⟨#[]⟩), (.int .i64 0), (.int .i64 0)]) 32 rfl Try.underlying24 infoTerm (by kernel_rfl) (l.take k) rfl rfl (C_takeN (k := k) (HS.out.oldC HR.out) (by omega)) (by show (0 + k) * 32 ≤ _; omega) ?_; clear HS; intro A_y1 c_y1 y1 w1 Ny1 HS; simp only [List.set_cons_zero, List.set_cons_succ] at HS; refine hK _ _ ?_; clear hK K; have f1_ := HS.out.old H0t.out))
              clear f1_
              replace HS := sD HS
              apply region_told ((fun (A0_ : Nat → Act) (a' : Act) (w' : World) => ∃ (g_b : Nat), a' = A0_ g_b ∧ Aside0 (Mod w w' No [bx g_b 34 #[.int .i64 v.1, .int .i64 v.2], rw' (KT) rfl 38 (.slice A_y1 (y1).length c_y1) (y1), bx g_a 34 #[.int .i64 x, .int .i64 y]])) _)
              case h1 =>
                refine ps (.p 0 (.p 1 (.p 2 (.p 3 (.t 4 (.t 5 (.two 6 10 (.p 7 (.p 8 (.p 9 (.e 10 (.d 11 (.p 12 .done)))))) (.e 6 (.p 7 (.p 8 (.p 9 (.d 11 (.p 12 .done))))))))))))) (fun w' => w'.cell? ⟨(ad_A.add (k * 3)).block, (ad_A.add (k * 3)).off + 1, none⟩ = some (.int .i64 t.2.1) ∧ w'.cell? ⟨(ad_A.add (k * 3)).block, (ad_A.add (k * 3)).off + 1 + 1, none⟩ = some (.int .i64 t.2.2) ∧ w'.cell? ⟨g_a, 0, none⟩ = some (.int .i64 x) ∧ w'.cell? ⟨g_a, 1, none⟩ = some (.int .i64 y)) [11] ⟨HS.out.old H1t.out, c2 (HS.out.old H2t.out), HS.out.c 1 0 (v := .int .i64 x) rfl rfl, HS.out.c 1 1 (v := .int .i64 y) rfl rfl⟩ (fun hHeld => ?_)
                repeat (first | ((with_reducible refine gate_p ?_); refine rp rfl rfl ?_) | ((with_reducible refine gate_t ?_); refine rt rfl rfl hHeld ?_))
                refine run_two ?_ ?_
                · skip
                  refine run_e rfl (fun K hK => ?_)
                  refine gc Try.func122 (HP.out _) rfl rfl ?_
                  rintro e_ w1 ⟨rfl, hb⟩
                  refine ⟨_, rfl, ?_⟩
                  replace HS := sB HS hb
                  refine ge hK ⟨HS.out.old H1t.out, c2 (HS.out.old H2t.out), HS.out.c 1 0 (v := .int .i64 x) rfl rfl, HS.out.c 1 1 (v := .int .i64 y) rfl rfl⟩ (fun hHeld => ?_)
                  repeat (first | ((with_reducible refine gate_p ?_); refine rp rfl rfl ?_) | ((with_reducible refine gate_t ?_); refine rt rfl rfl hHeld ?_))
                  refine run_e rfl (fun K hK => ?_)
                  refine bx1 34 #[(.int .i64 0), (.int .i64 0)] HS ?_
                  intro g_b w1 hg_b HS
                  refine ge hK ⟨HS.out.old H1t.out, c2 (HS.out.old H2t.out), HS.out.c 2 0 (v := .int .i64 x) rfl rfl, HS.out.c 2 1 (v := .int .i64 y) rfl rfl⟩ (fun hHeld => ?_)
                  refine run_d rfl (fun K hK => ?_)
                  refine st1 HS 0 0 #[.int .i64 v.1, .int .i64 v.2] rfl rfl rfl rfl rfl ?_
                  intro w1 HS
                  refine goD hK rfl ?_
                  repeat (first | ((with_reducible refine gate_p ?_); refine rp rfl rfl ?_) | ((with_reducible refine gate_t ?_); refine rt rfl rfl hHeld ?_))
                  refine run_done ?_
                  exact ⟨g_b, rfl, HS⟩
                · skip
                  refine run_e rfl (fun K hK => ?_)
                  refine bx1 34 #[(.int .i64 0), (.int .i64 0)] HS ?_
                  intro g_b w1 hg_b HS
                  refine ge hK ⟨HS.out.old H1t.out, c2 (HS.out.old H2t.out), HS.out.c 2 0 (v := .int .i64 x) rfl rfl, HS.out.c 2 1 (v := .int .i64 y) rfl rfl⟩ (fun hHeld => ?_)
                  refine run_e rfl (fun K hK => ?_)
                  refine gc Try.func122 (HP.out _) rfl rfl ?_
                  rintro e_ w1 ⟨rfl, hb⟩
                  refine ⟨_, rfl, ?_⟩
                  replace HS := sB HS hb
                  refine ge hK ⟨HS.out.old H1t.out, c2 (HS.out.old H2t.out), HS.out.c 2 0 (v := .int .i64 x) rfl rfl, HS.out.c 2 1 (v := .int .i64 y) rfl rfl⟩ (fun hHeld => ?_)
                  repeat (first | ((with_reducible refine gate_p ?_); refine rp rfl rfl ?_) | ((with_reducible refine gate_t ?_); refine rt rfl rfl hHeld ?_))
                  refine run_d rfl (fun K hK => ?_)
                  refine st1 HS 0 0 #[.int .i64 v.1, .int .i64 v.2] rfl rfl rfl rfl rfl ?_
                  intro w1 HS
                  refine goD hK rfl ?_
                  repeat (first | ((with_reducible refine gate_p ?_); refine rp rfl rfl ?_) | ((with_reducible refine gate_t ?_); refine rt rfl rfl hHeld ?_))
                  refine run_done ?_
                  have n_ := HS.out.sel [0, 1, 2] (by decide)
                  simp only [List.filterMap_cons, List.filterMap_nil, List.getElem?_cons_zero, List.getElem?_cons_succ] at n_
                  exact ⟨g_b, rfl, ⟨n_⟩⟩
              clear HS
              rintro a_ w1 ⟨g_b, rfl, HS⟩
              have f1_ := HS.out.c 0 0 (v := .int .i64 v.1) rfl rfl
              have f2_ := HS.out.c 0 1 (v := .int .i64 v.2) rfl rfl
              go_wp2_with (first | ((with_reducible refine gate_store (t := 34) (p := 5) rfl ?_); refine stL HS 2 0 #[.int .i64 v.1, .int .i64 v.2] rfl rfl rfl rfl rfl ?_; clear HS f1_ f2_; intro w1 HS; have f1_ := HS.out.c 2 0 (v := .int .i64 v.1) rfl rfl; have f2_ := HS.out.c 2 1 (v := .int .i64 v.2) rfl rfl) | (go_at_call 108; refine (specZero _ _ _).mono ?_; rintro e_ w1 ⟨rfl, hb⟩; replace HS := sB HS hb; clear hb f1_ f2_) | ((with_reducible refine gate_builtin (b := .append) (xs := #[.tmp 69, .tmp 72]) rfl ?_); at_builtin; refine wpList_stp (fun K hK => ?_); refine stp_rows KT rfl (fun _ _ _ _ _ h => h) (by rfl) HS 1 rfl (.tmp 69) (.tmp 72) 24 (.agg #[(.string ⟨#[]⟩), (.int .i64 0), (.int .i64 0)]) 32 rfl Try.underlying24 infoTerm (by kernel_rfl) (l.drop (k + 1)) rfl rfl (by first | exact C_dropN1 (k := k + 1) (c := c) (HS.out.oldC HR.out) (by omega) hc (by omega) | exact C_dropN2 (k := k + 1) (c := c) (HS.out.oldC HR.out) (by omega) hc (by omega) | exact C_dropN3 (k := k + 1) (c := c) (HS.out.oldC HR.out) (by omega) hc) (by have h_ := hy1 _ Ny1; omega) ?_; clear HS; intro A_y3 c_y3 y3 w1 Ny3 HS; simp only [List.set_cons_zero, List.set_cons_succ] at HS; refine hK _ _ ?_; clear hK K))
              all_goals (go_ret2; have e_ : resP (put l s (x, y)) = (y3, true) := (by rw [HPut.out]; simp [Ny3.out, Ny1.out, HZ.out, resP]); rw [e_]; exact ⟨A_y3, c_y3, rfl, HS.out.sel [1] (by decide)⟩)
            · skip
              have hzb : (v.1 == 0) = false := by simpa using hz
              have HZ := Aside0.mk hz
              clear hz
              have f1_ := HS.out.old H0t.out
              go_wp2_with (first | (go_at_call 109; refine (specBefore t.1 s _ (by omega) (by omega)).mono ?_; rintro e_ w1 ⟨rfl, hb⟩; replace HS := sB HS hb; clear hb f1_) | ((with_reducible refine gate_dst (N := 27) rfl ?_); refine wpList_stp (fun K hK => ?_); refine stp_lit (KT) rfl 38 (by rfl) HS (xs := ([] : Ts)) (inner := []) (by first | (go_simp; done) | (go_simp; rfl)) (fun W base ok => Reps.none _ _) (by simp) ?_; clear HS; intro A_o c_o w1 HS; refine hK _ _ ?_; clear hK K) | ((with_reducible refine gate_builtin (b := .append) (xs := #[.tmp 27, .tmp 30]) rfl ?_); at_builtin; refine wpList_stp (fun K hK => ?_); refine stp_rows KT rfl (fun _ _ _ _ _ h => h) (by rfl) HS 0 (xs := []) rfl (.tmp 27) (.tmp 30) 24 (.agg #[(.string ⟨#[]⟩), (.int .i64 0), (.int .i64 0)]) 32 rfl Try.underlying24 infoTerm (by kernel_rfl) (l.take k) rfl rfl (C_takeN (k := k) (HS.out.oldC HR.out) (by omega)) (by show (0 + k) * 32 ≤ _; omega) ?_; clear HS; intro A_y1 c_y1 y1 w1 Ny1 HS; simp only [List.set_cons_zero, List.set_cons_succ] at HS; refine hK _ _ ?_; clear hK K; have f1_ := HS.out.old H0t.out))
              clear f1_
              replace HS := sD HS
              apply region_told ((fun (A0_ : Nat → Act) (a' : Act) (w' : World) => ∃ (g_b : Nat), a' = A0_ g_b ∧ Aside0 (Mod w w' No [bx g_b 34 #[.int .i64 v.1, .int .i64 v.2], rw' (KT) rfl 38 (.slice A_y1 (y1).length c_y1) (y1), bx g_a 34 #[.int .i64 x, .int .i64 y]])) _)
              case h1 =>
                refine ps (.p 0 (.p 1 (.p 2 (.p 3 (.t 4 (.t 5 (.two 6 10 (.p 7 (.p 8 (.p 9 (.e 10 (.d 11 (.p 12 .done)))))) (.e 6 (.p 7 (.p 8 (.p 9 (.d 11 (.p 12 .done))))))))))))) (fun w' => w'.cell? ⟨(ad_A.add (k * 3)).block, (ad_A.add (k * 3)).off + 1, none⟩ = some (.int .i64 t.2.1) ∧ w'.cell? ⟨(ad_A.add (k * 3)).block, (ad_A.add (k * 3)).off + 1 + 1, none⟩ = some (.int .i64 t.2.2) ∧ w'.cell? ⟨g_a, 0, none⟩ = some (.int .i64 x) ∧ w'.cell? ⟨g_a, 1, none⟩ = some (.int .i64 y)) [11] ⟨HS.out.old H1t.out, c2 (HS.out.old H2t.out), HS.out.c 1 0 (v := .int .i64 x) rfl rfl, HS.out.c 1 1 (v := .int .i64 y) rfl rfl⟩ (fun hHeld => ?_)
                repeat (first | ((with_reducible refine gate_p ?_); refine rp rfl rfl ?_) | ((with_reducible refine gate_t ?_); refine rt rfl rfl hHeld ?_))
                refine run_two ?_ ?_
                · skip
                  refine run_e rfl (fun K hK => ?_)
                  refine gc Try.func122 (HP.out _) rfl rfl ?_
                  rintro e_ w1 ⟨rfl, hb⟩
                  refine ⟨_, rfl, ?_⟩
                  replace HS := sB HS hb
                  refine ge hK ⟨HS.out.old H1t.out, c2 (HS.out.old H2t.out), HS.out.c 1 0 (v := .int .i64 x) rfl rfl, HS.out.c 1 1 (v := .int .i64 y) rfl rfl⟩ (fun hHeld => ?_)
                  repeat (first | ((with_reducible refine gate_p ?_); refine rp rfl rfl ?_) | ((with_reducible refine gate_t ?_); refine rt rfl rfl hHeld ?_))
                  refine run_e rfl (fun K hK => ?_)
                  refine bx1 34 #[(.int .i64 0), (.int .i64 0)] HS ?_
                  intro g_b w1 hg_b HS
                  refine ge hK ⟨HS.out.old H1t.out, c2 (HS.out.old H2t.out), HS.out.c 2 0 (v := .int .i64 x) rfl rfl, HS.out.c 2 1 (v := .int .i64 y) rfl rfl⟩ (fun hHeld => ?_)
                  refine run_d rfl (fun K hK => ?_)
                  refine st1 HS 0 0 #[.int .i64 v.1, .int .i64 v.2] rfl rfl rfl rfl rfl ?_
                  intro w1 HS
                  refine goD hK rfl ?_
                  repeat (first | ((with_reducible refine gate_p ?_); refine rp rfl rfl ?_) | ((with_reducible refine gate_t ?_); refine rt rfl rfl hHeld ?_))
                  refine run_done ?_
                  exact ⟨g_b, rfl, HS⟩
                · skip
                  refine run_e rfl (fun K hK => ?_)
                  refine bx1 34 #[(.int .i64 0), (.int .i64 0)] HS ?_
                  intro g_b w1 hg_b HS
                  refine ge hK ⟨HS.out.old H1t.out, c2 (HS.out.old H2t.out), HS.out.c 2 0 (v := .int .i64 x) rfl rfl, HS.out.c 2 1 (v := .int .i64 y) rfl rfl⟩ (fun hHeld => ?_)
                  refine run_e rfl (fun K hK => ?_)
                  refine gc Try.func122 (HP.out _) rfl rfl ?_
                  rintro e_ w1 ⟨rfl, hb⟩
                  refine ⟨_, rfl, ?_⟩
                  replace HS := sB HS hb
                  refine ge hK ⟨HS.out.old H1t.out, c2 (HS.out.old H2t.out), HS.out.c 2 0 (v := .int .i64 x) rfl rfl, HS.out.c 2 1 (v := .int .i64 y) rfl rfl⟩ (fun hHeld => ?_)
                  repeat (first | ((with_reducible refine gate_p ?_); refine rp rfl rfl ?_) | ((with_reducible refine gate_t ?_); refine rt rfl rfl hHeld ?_))
                  refine run_d rfl (fun K hK => ?_)
                  refine st1 HS 0 0 #[.int .i64 v.1, .int .i64 v.2] rfl rfl rfl rfl rfl ?_
                  intro w1 HS
                  refine goD hK rfl ?_
                  repeat (first | ((with_reducible refine gate_p ?_); refine rp rfl rfl ?_) | ((with_reducible refine gate_t ?_); refine rt rfl rfl hHeld ?_))
                  refine run_done ?_
                  have n_ := HS.out.sel [0, 1, 2] (by decide)
                  simp only [List.filterMap_cons, List.filterMap_nil, List.getElem?_cons_zero, List.getElem?_cons_succ] at n_
                  exact ⟨g_b, rfl, ⟨n_⟩⟩
              clear HS
              rintro a_ w1 ⟨g_b, rfl, HS⟩
              have f1_ := HS.out.c 0 0 (v := .int .i64 v.1) rfl rfl
              have f2_ := HS.out.c 0 1 (v := .int .i64 v.2) rfl rfl
              go_wp2_with (first | ((with_reducible refine gate_store (t := 34) (p := 5) rfl ?_); refine stL HS 2 0 #[.int .i64 v.1, .int .i64 v.2] rfl rfl rfl rfl rfl ?_; clear HS f1_ f2_; intro w1 HS; have f1_ := HS.out.c 2 0 (v := .int .i64 v.1) rfl rfl; have f2_ := HS.out.c 2 1 (v := .int .i64 v.2) rfl rfl) | (go_at_call 108; refine (specZero _ _ _).mono ?_; rintro e_ w1 ⟨rfl, hb⟩; replace HS := sB HS hb; clear hb f1_ f2_; have f1_ := HS.out.c 2 0 (v := .int .i64 v.1) rfl rfl; have f2_ := HS.out.c 2 1 (v := .int .i64 v.2) rfl rfl) | ((with_reducible refine gate_builtin (b := .append) (xs := #[.tmp 63, .tmp 67]) rfl ?_); at_builtin; refine wpList_stp (fun K hK => ?_); refine stp_app (KT) rfl (by rfl) HS 1 rfl (.tmp 63) (.tmp 67) 24 38 (.agg #[(.string ⟨#[]⟩), (.int .i64 0), (.int .i64 0)]) 32 rfl Try.underlying24 infoTerm (by kernel_rfl) (((s, v.1, v.2) : Tm)) [.string s, .int .i64 v.1, .int .i64 v.2] rfl (by first | rfl | (show Value.slice (some ⟨_, 0, none⟩) 1 1 = _; simp)) (KT_M (s, v.1, v.2)) (by have h_ := hy1 _ Ny1; omega) ?_; clear HS f1_ f2_; intro A_y2 c_y2 y2 w1 Ny2 HS; simp only [List.set_cons_zero, List.set_cons_succ] at HS; refine hK _ _ ?_; clear hK K) | ((with_reducible refine gate_builtin (b := .append) (xs := #[.tmp 69, .tmp 72]) rfl ?_); at_builtin; refine wpList_stp (fun K hK => ?_); refine stp_rows KT rfl (fun _ _ _ _ _ h => h) (by rfl) HS 1 rfl (.tmp 69) (.tmp 72) 24 (.agg #[(.string ⟨#[]⟩), (.int .i64 0), (.int .i64 0)]) 32 rfl Try.underlying24 infoTerm (by kernel_rfl) (l.drop (k + 1)) rfl rfl (by first | exact C_dropN1 (k := k + 1) (c := c) (HS.out.oldC HR.out) (by omega) hc (by omega) | exact C_dropN2 (k := k + 1) (c := c) (HS.out.oldC HR.out) (by omega) hc (by omega) | exact C_dropN3 (k := k + 1) (c := c) (HS.out.oldC HR.out) (by omega) hc) (by have h_ := hy2 _ _ Ny1 Ny2; omega) ?_; clear HS; intro A_y3 c_y3 y3 w1 Ny3 HS; simp only [List.set_cons_zero, List.set_cons_succ] at HS; refine hK _ _ ?_; clear hK K))
              all_goals (go_ret2; have e_ : resP (put l s (x, y)) = (y3, true) := (by rw [HPut.out]; simp [Ny3.out, Ny2.out, Ny1.out, HZ.out, resP]); rw [e_]; exact ⟨A_y3, c_y3, rfl, HS.out.sel [1] (by decide)⟩)
        · have hse : (t.1.toList == s.toList) = false := by rw [str_eq]; exact decide_eq_false he
          have HPut := Aside0.mk (HN.out hbf he)
          by_cases hz : x = 0
          · skip
            have hzb : (x == 0) = true := by rw [hz]; rfl
            have HZ := Aside0.mk hz
            clear hz
            have f1_ := HS.out.old H0t.out
            go_wp2_with (first | (go_at_call 109; refine (specBefore t.1 s _ (by omega) (by omega)).mono ?_; rintro e_ w1 ⟨rfl, hb⟩; replace HS := sB HS hb; clear hb f1_) | ((with_reducible refine gate_dst (N := 27) rfl ?_); refine wpList_stp (fun K hK => ?_); refine stp_lit (KT) rfl 38 (by rfl) HS (xs := ([] : Ts)) (inner := []) (by first | (go_simp; done) | (go_simp; rfl)) (fun W base ok => Reps.none _ _) (by simp) ?_; clear HS; intro A_o c_o w1 HS; refine hK _ _ ?_; clear hK K) | ((with_reducible refine gate_builtin (b := .append) (xs := #[.tmp 27, .tmp 30]) rfl ?_); at_builtin; refine wpList_stp (fun K hK => ?_); refine stp_rows KT rfl (fun _ _ _ _ _ h => h) (by rfl) HS 0 (xs := []) rfl (.tmp 27) (.tmp 30) 24 (.agg #[(.string ⟨#[]⟩), (.int .i64 0), (.int .i64 0)]) 32 rfl Try.underlying24 infoTerm (by kernel_rfl) (l.take k) rfl rfl (C_takeN (k := k) (HS.out.oldC HR.out) (by omega)) (by show (0 + k) * 32 ≤ _; omega) ?_; clear HS; intro A_y1 c_y1 y1 w1 Ny1 HS; simp only [List.set_cons_zero, List.set_cons_succ] at HS; refine hK _ _ ?_; clear hK K; have f1_ := HS.out.old H0t.out; have f2_ := HS.out.c 1 0 (v := .int .i64 x) rfl rfl; have f3_ := HS.out.c 1 1 (v := .int .i64 y) rfl rfl) | (go_at_call 108; refine (specZero _ _ _).mono ?_; rintro e_ w1 ⟨rfl, hb⟩; replace HS := sB HS hb; clear hb f1_ f2_ f3_) | ((with_reducible refine gate_builtin (b := .append) (xs := #[.tmp 69, .tmp 72]) rfl ?_); at_builtin; refine wpList_stp (fun K hK => ?_); refine stp_rows KT rfl (fun _ _ _ _ _ h => h) (by rfl) HS 0 rfl (.tmp 69) (.tmp 72) 24 (.agg #[(.string ⟨#[]⟩), (.int .i64 0), (.int .i64 0)]) 32 rfl Try.underlying24 infoTerm (by kernel_rfl) (l.drop (k)) rfl rfl (by first | exact C_dropN1 (k := k) (c := c) (HS.out.oldC HR.out) (by omega) hc (by omega) | exact C_dropN2 (k := k) (c := c) (HS.out.oldC HR.out) (by omega) hc (by omega) | exact C_dropN3 (k := k) (c := c) (HS.out.oldC HR.out) (by omega) hc) (by have h_ := hy1 _ Ny1; omega) ?_; clear HS; intro A_y3 c_y3 y3 w1 Ny3 HS; simp only [List.set_cons_zero, List.set_cons_succ] at HS; refine hK _ _ ?_; clear hK K))
            all_goals (go_ret2; have e_ : resP (put l s (x, y)) = (y3, true) := (by rw [HPut.out]; simp [Ny3.out, Ny1.out, HZ.out, resP]); rw [e_]; exact ⟨A_y3, c_y3, rfl, HS.out.sel [0] (by decide)⟩)
          · skip
            have hzb : (x == 0) = false := by simpa using hz
            have HZ := Aside0.mk hz
            clear hz
            have f1_ := HS.out.old H0t.out
            go_wp2_with (first | (go_at_call 109; refine (specBefore t.1 s _ (by omega) (by omega)).mono ?_; rintro e_ w1 ⟨rfl, hb⟩; replace HS := sB HS hb; clear hb f1_) | ((with_reducible refine gate_dst (N := 27) rfl ?_); refine wpList_stp (fun K hK => ?_); refine stp_lit (KT) rfl 38 (by rfl) HS (xs := ([] : Ts)) (inner := []) (by first | (go_simp; done) | (go_simp; rfl)) (fun W base ok => Reps.none _ _) (by simp) ?_; clear HS; intro A_o c_o w1 HS; refine hK _ _ ?_; clear hK K) | ((with_reducible refine gate_builtin (b := .append) (xs := #[.tmp 27, .tmp 30]) rfl ?_); at_builtin; refine wpList_stp (fun K hK => ?_); refine stp_rows KT rfl (fun _ _ _ _ _ h => h) (by rfl) HS 0 (xs := []) rfl (.tmp 27) (.tmp 30) 24 (.agg #[(.string ⟨#[]⟩), (.int .i64 0), (.int .i64 0)]) 32 rfl Try.underlying24 infoTerm (by kernel_rfl) (l.take k) rfl rfl (C_takeN (k := k) (HS.out.oldC HR.out) (by omega)) (by show (0 + k) * 32 ≤ _; omega) ?_; clear HS; intro A_y1 c_y1 y1 w1 Ny1 HS; simp only [List.set_cons_zero, List.set_cons_succ] at HS; refine hK _ _ ?_; clear hK K; have f1_ := HS.out.old H0t.out; have f2_ := HS.out.c 1 0 (v := .int .i64 x) rfl rfl; have f3_ := HS.out.c 1 1 (v := .int .i64 y) rfl rfl) | (go_at_call 108; refine (specZero _ _ _).mono ?_; rintro e_ w1 ⟨rfl, hb⟩; replace HS := sB HS hb; clear hb f1_ f2_ f3_; have f1_ := HS.out.c 1 0 (v := .int .i64 x) rfl rfl; have f2_ := HS.out.c 1 1 (v := .int .i64 y) rfl rfl) | ((with_reducible refine gate_builtin (b := .append) (xs := #[.tmp 63, .tmp 67]) rfl ?_); at_builtin; refine wpList_stp (fun K hK => ?_); refine stp_app (KT) rfl (by rfl) HS 0 rfl (.tmp 63) (.tmp 67) 24 38 (.agg #[(.string ⟨#[]⟩), (.int .i64 0), (.int .i64 0)]) 32 rfl Try.underlying24 infoTerm (by kernel_rfl) (((s, x, y) : Tm)) [.string s, .int .i64 x, .int .i64 y] rfl (by first | rfl | (show Value.slice (some ⟨_, 0, none⟩) 1 1 = _; simp)) (KT_M (s, x, y)) (by have h_ := hy1 _ Ny1; omega) ?_; clear HS f1_ f2_; intro A_y2 c_y2 y2 w1 Ny2 HS; simp only [List.set_cons_zero, List.set_cons_succ] at HS; refine hK _ _ ?_; clear hK K) | ((with_reducible refine gate_builtin (b := .append) (xs := #[.tmp 69, .tmp 72]) rfl ?_); at_builtin; refine wpList_stp (fun K hK => ?_); refine stp_rows KT rfl (fun _ _ _ _ _ h => h) (by rfl) HS 0 rfl (.tmp 69) (.tmp 72) 24 (.agg #[(.string ⟨#[]⟩), (.int .i64 0), (.int .i64 0)]) 32 rfl Try.underlying24 infoTerm (by kernel_rfl) (l.drop (k)) rfl rfl (by first | exact C_dropN1 (k := k) (c := c) (HS.out.oldC HR.out) (by omega) hc (by omega) | exact C_dropN2 (k := k) (c := c) (HS.out.oldC HR.out) (by omega) hc (by omega) | exact C_dropN3 (k := k) (c := c) (HS.out.oldC HR.out) (by omega) hc) (by have h_ := hy2 _ _ Ny1 Ny2; omega) ?_; clear HS; intro A_y3 c_y3 y3 w1 Ny3 HS; simp only [List.set_cons_zero, List.set_cons_succ] at HS; refine hK _ _ ?_; clear hK K))
            all_goals (go_ret2; have e_ : resP (put l s (x, y)) = (y3, true) := (by rw [HPut.out]; simp [Ny3.out, Ny2.out, Ny1.out, HZ.out, resP]); rw [e_]; exact ⟨A_y3, c_y3, rfl, HS.out.sel [0] (by decide)⟩)
    · obtain rfl : k = l.length := by omega
      have HPut := Aside0.mk (put_end (s := s) (a := (x, y)) HB.out)
      by_cases hz : x = 0
      · skip
        have hzb : (x == 0) = true := by rw [hz]; rfl
        have HZ := Aside0.mk hz
        clear hz
        go_wp2_with (first | ((with_reducible refine gate_dst (N := 27) rfl ?_); refine wpList_stp (fun K hK => ?_); refine stp_lit (KT) rfl 38 (by rfl) HS (xs := ([] : Ts)) (inner := []) (by first | (go_simp; done) | (go_simp; rfl)) (fun W base ok => Reps.none _ _) (by simp) ?_; clear HS; intro A_o c_o w1 HS; refine hK _ _ ?_; clear hK K) | ((with_reducible refine gate_builtin (b := .append) (xs := #[.tmp 27, .tmp 30]) rfl ?_); at_builtin; refine wpList_stp (fun K hK => ?_); refine stp_rows KT rfl (fun _ _ _ _ _ h => h) (by rfl) HS 0 (xs := []) rfl (.tmp 27) (.tmp 30) 24 (.agg #[(.string ⟨#[]⟩), (.int .i64 0), (.int .i64 0)]) 32 rfl Try.underlying24 infoTerm (by kernel_rfl) (l.take l.length) rfl rfl (C_takeN (k := l.length) (HS.out.oldC HR.out) (by omega)) (by show (0 + l.length) * 32 ≤ _; omega) ?_; clear HS; intro A_y1 c_y1 y1 w1 Ny1 HS; simp only [List.set_cons_zero, List.set_cons_succ] at HS; refine hK _ _ ?_; clear hK K; have f1_ := HS.out.c 1 0 (v := .int .i64 x) rfl rfl; have f2_ := HS.out.c 1 1 (v := .int .i64 y) rfl rfl) | (go_at_call 108; refine (specZero _ _ _).mono ?_; rintro e_ w1 ⟨rfl, hb⟩; replace HS := sB HS hb; clear hb f1_ f2_) | ((with_reducible refine gate_builtin (b := .append) (xs := #[.tmp 69, .tmp 72]) rfl ?_); at_builtin; refine wpList_stp (fun K hK => ?_); refine stp_rows KT rfl (fun _ _ _ _ _ h => h) (by rfl) HS 0 rfl (.tmp 69) (.tmp 72) 24 (.agg #[(.string ⟨#[]⟩), (.int .i64 0), (.int .i64 0)]) 32 rfl Try.underlying24 infoTerm (by kernel_rfl) ([] : Ts) rfl rfl C_zero (by have h_ := hy1 _ Ny1; omega) ?_; clear HS; intro A_y3 c_y3 y3 w1 Ny3 HS; simp only [List.set_cons_zero, List.set_cons_succ] at HS; refine hK _ _ ?_; clear hK K))
        all_goals (go_ret2; have e_ : resP (put l s (x, y)) = (y3, true) := (by rw [HPut.out]; simp [Ny3.out, Ny1.out, HZ.out, resP]); rw [e_]; exact ⟨A_y3, c_y3, rfl, HS.out.sel [0] (by decide)⟩)
      · skip
        have hzb : (x == 0) = false := by simpa using hz
        have HZ := Aside0.mk hz
        clear hz
        go_wp2_with (first | ((with_reducible refine gate_dst (N := 27) rfl ?_); refine wpList_stp (fun K hK => ?_); refine stp_lit (KT) rfl 38 (by rfl) HS (xs := ([] : Ts)) (inner := []) (by first | (go_simp; done) | (go_simp; rfl)) (fun W base ok => Reps.none _ _) (by simp) ?_; clear HS; intro A_o c_o w1 HS; refine hK _ _ ?_; clear hK K) | ((with_reducible refine gate_builtin (b := .append) (xs := #[.tmp 27, .tmp 30]) rfl ?_); at_builtin; refine wpList_stp (fun K hK => ?_); refine stp_rows KT rfl (fun _ _ _ _ _ h => h) (by rfl) HS 0 (xs := []) rfl (.tmp 27) (.tmp 30) 24 (.agg #[(.string ⟨#[]⟩), (.int .i64 0), (.int .i64 0)]) 32 rfl Try.underlying24 infoTerm (by kernel_rfl) (l.take l.length) rfl rfl (C_takeN (k := l.length) (HS.out.oldC HR.out) (by omega)) (by show (0 + l.length) * 32 ≤ _; omega) ?_; clear HS; intro A_y1 c_y1 y1 w1 Ny1 HS; simp only [List.set_cons_zero, List.set_cons_succ] at HS; refine hK _ _ ?_; clear hK K; have f1_ := HS.out.c 1 0 (v := .int .i64 x) rfl rfl; have f2_ := HS.out.c 1 1 (v := .int .i64 y) rfl rfl) | (go_at_call 108; refine (specZero _ _ _).mono ?_; rintro e_ w1 ⟨rfl, hb⟩; replace HS := sB HS hb; clear hb f1_ f2_; have f1_ := HS.out.c 1 0 (v := .int .i64 x) rfl rfl; have f2_ := HS.out.c 1 1 (v := .int .i64 y) rfl rfl) | ((with_reducible refine gate_builtin (b := .append) (xs := #[.tmp 63, .tmp 67]) rfl ?_); at_builtin; refine wpList_stp (fun K hK => ?_); refine stp_app (KT) rfl (by rfl) HS 0 rfl (.tmp 63) (.tmp 67) 24 38 (.agg #[(.string ⟨#[]⟩), (.int .i64 0), (.int .i64 0)]) 32 rfl Try.underlying24 infoTerm (by kernel_rfl) (((s, x, y) : Tm)) [.string s, .int .i64 x, .int .i64 y] rfl (by first | rfl | (show Value.slice (some ⟨_, 0, none⟩) 1 1 = _; simp)) (KT_M (s, x, y)) (by have h_ := hy1 _ Ny1; omega) ?_; clear HS f1_ f2_; intro A_y2 c_y2 y2 w1 Ny2 HS; simp only [List.set_cons_zero, List.set_cons_succ] at HS; refine hK _ _ ?_; clear hK K) | ((with_reducible refine gate_builtin (b := .append) (xs := #[.tmp 69, .tmp 72]) rfl ?_); at_builtin; refine wpList_stp (fun K hK => ?_); refine stp_rows KT rfl (fun _ _ _ _ _ h => h) (by rfl) HS 0 rfl (.tmp 69) (.tmp 72) 24 (.agg #[(.string ⟨#[]⟩), (.int .i64 0), (.int .i64 0)]) 32 rfl Try.underlying24 infoTerm (by kernel_rfl) ([] : Ts) rfl rfl C_zero (by have h_ := hy2 _ _ Ny1 Ny2; omega) ?_; clear HS; intro A_y3 c_y3 y3 w1 Ny3 HS; simp only [List.set_cons_zero, List.set_cons_succ] at HS; refine hK _ _ ?_; clear hK K))
        all_goals (go_ret2; have e_ : resP (put l s (x, y)) = (y3, true) := (by rw [HPut.out]; simp [Ny3.out, Ny2.out, Ny1.out, HZ.out, resP]); rw [e_]; exact ⟨A_y3, c_y3, rfl, HS.out.sel [0] (by decide)⟩)
end Go.Proofs.Ytibjkjhpfmmjoaa.H



namespace Go.Proofs.Ytibjkjhpfmmjoaa.M
theorem scF_run {a : Fr} : ∀ {l y z : Ts}, l.foldlM (scF a) y = some z → z.length = y.length + l.length
  | [], y, z, h => by
    have : y = z := by simpa using h
    rw [this]; rfl
  | t :: r, y, z, h => by
    rw [List.foldlM_cons] at h
    unfold scF at h
    cases hm : mul t.2 a with
    | none => rw [hm] at h; cases h
    | some c =>
      rw [hm] at h
      have := scF_run (l := r) (y := y ++ [(t.1, c)]) (z := z) h
      rw [this, List.length_append, List.length_cons]
      simp; omega
theorem sc_fold {l : Ts} {a : Fr} (h : a.1 ≠ 0) : scS l a = l.foldlM (scF a) [] := by unfold scS; rw [if_neg h]
end Go.Proofs.Ytibjkjhpfmmjoaa.M
namespace Go.Proofs.Ytibjkjhpfmmjoaa.H
open Go.RowKit Go.Proofs.YtibjkjhpfmmjoaaW.PrintWords Go.Proofs.YtibjkjhpfmmjoaaW.PrintLast Go.Proofs.YtibjkjhpfmmjoaaW.PrintMore Go.Proofs.Ytibjkjhpfmmjoaa.M
attribute [local go_sem] max2_int min2_int max_two min_two max_three min_three max_four min_four resP
set_option linter.unusedVariables false
set_option linter.unusedSimpArgs false
set_option maxRecDepth 100000
theorem Mod.tm {w W : World} {S : Nat → Prop} {L : List As} (h : Mod w W S L) (i : Nat) {ad : Addr} {c : Nat} {u : Ts} (hi : L[i]? = some (rowT (some ad) c u)) {j : Nat} {t : Tm} (hj : u[j]? = some t) :
    W.cell? (ad.add (j * 3)) = some (.string t.1) ∧ W.cell? ⟨(ad.add (j * 3)).block, (ad.add (j * 3)).off + 1, none⟩ = some (.int .i64 t.2.1) ∧ W.cell? ⟨(ad.add (j * 3)).block, (ad.add (j * 3)).off + 2, none⟩ = some (.int .i64 t.2.2) := by
  obtain ⟨h1, h2⟩ := List.getElem?_eq_some_iff.1 hj
  obtain ⟨ad', e, h0, h3, h4⟩ := tm_at (h.reads i hi) j h1
  cases e
  rw [List.getD_eq_getElem?_getD, hj] at h0 h3 h4
  exact ⟨h0, h3, h4⟩
set_option maxHeartbeats 16000000 in
theorem specAddk (d n : Nat) (hd : d ≤ 3) (hn : n ≤ 5) (A : Option Addr) (c : Nat) (l : Ts) (A2 : Option Addr) (cc : Nat) (l2 : Ts) (k : Fr) (w : World) (hr : KT.C w A l.length l) (hr2 : KT.C w A2 l2.length l2) (hx : isTs d n l = true) (hy : isTs d n l2 = true) (hk : fr k = true) (h0 : k.1 ≠ 0) :
    Calls Try.prog 124 #[.agg #[.int .i64 (d : Int), .int .i64 (n : Int), .slice A l.length c], .agg #[.int .i64 (d : Int), .int .i64 (n : Int), .slice A2 l2.length cc], .agg #[.int .i64 k.1, .int .i64 k.2]] w (RetQ w (resQ d n (addkS l l2 k))) := by
  have hd9 : d ≤ 9 := by omega
  have HR := Aside0.mk hr
  have HR2 := Aside0.mk hr2
  have HX := Aside0.mk hx
  have hll := (bnd_iff.1 (isTs_bnd hd hn hx)).1
  have hll2 := (bnd_iff.1 (isTs_bnd hd hn hy)).1
  have HKS := Aside0.mk (fr_small hk)
  have HSM := Aside0.mk (fun j (h : j < l2.length) => (by rw [getD_lt l2 zT j h]; exact isTs_small hy _ (List.getElem_mem h) : small (l2.getD j zT).2))
  have HA := Aside0.mk (show addkS l l2 k = (l2.foldlM (scF k) []).bind fun r => sumS l r by unfold addkS; rw [sc_fold h0])
  have HT := Aside0.mk (fun z (h : l2.foldlM (scF k) [] = some z) => scale_ts (d := d) (n := n) hd9 hy hk (by rw [sc_fold h0]; exact h))
  have HS := Aside0.mk (Sep.refl w)
  clear hr hr2 hx hy hk h0
  go_enter Try.func124, Try.ntmps124
  go_wp2_with (first | ((with_reducible refine gate_dst (N := 3) rfl ?_); refine bxL 26 #[.int .i64 (d : Int), .int .i64 (n : Int), .slice A l.length c] HS ?_; clear HS; intro g_p w1 hg_p HS) | ((with_reducible refine gate_dst (N := 4) rfl ?_); refine bxL 26 #[.int .i64 (d : Int), .int .i64 (n : Int), .slice A2 l2.length cc] HS ?_; clear HS; intro g_a w1 hg_a HS) | ((with_reducible refine gate_dst (N := 5) rfl ?_); refine bxL 34 #[.int .i64 k.1, .int .i64 k.2] HS ?_; clear HS; intro g_kk w1 hg_kk HS) | ((with_reducible refine gate_dst (N := 6) rfl ?_); refine bxL 26 #[(.int .i64 0), (.int .i64 0), (.slice none 0 0)] HS ?_; clear HS; intro g_r w1 hg_r HS; have f1_ := HS.out.c 3 0 (v := .int .i64 (d : Int)) rfl rfl; have f2_ := HS.out.c 3 1 (v := .int .i64 (n : Int)) rfl rfl; have f3_ := HS.out.c 3 2 (v := .slice A l.length c) rfl rfl) | (go_at_call 62; refine (specEmpty d n A l.length c _).mono ?_; rintro e_ w1 ⟨B, b, rfl, hs⟩; replace HS := sN1 HS hs; clear hs f1_ f2_ f3_) | ((with_reducible refine gate_dst (N := 8) rfl ?_); refine bxL 26 #[(.int .i64 0), (.int .i64 0), (.slice none 0 0)] HS ?_; clear HS; intro g_q w1 hg_q HS) | ((with_reducible refine gate_store (t := 26) (p := 8) rfl ?_); refine stL HS 0 0 #[.int .i64 (d : Int), .int .i64 (n : Int), .slice B ([] : Ts).length b] rfl rfl rfl rfl rfl ?_; clear HS; intro w1 HS; have f1_ := HS.out.c 0 2 (v := .slice B ([] : Ts).length b) rfl rfl; have f2_ := HS.out.c 5 2 (v := .slice A l.length c) rfl rfl) | ((with_reducible refine gate_builtin (b := .append) (xs := #[.tmp 19, .tmp 21]) rfl ?_); at_builtin; refine wpList_stp (fun K hK => ?_); refine stp_rows KT rfl (fun _ _ _ _ _ h => h) (by rfl) HS 1 (xs := []) rfl (.tmp 19) (.tmp 21) 24 (.agg #[(.string ⟨#[]⟩), (.int .i64 0), (.int .i64 0)]) 32 rfl Try.underlying24 infoTerm (by kernel_rfl) l rfl rfl (HS.out.oldC HR.out) (by show (0 + l.length) * 32 ≤ _; omega) ?_; clear HS f1_ f2_; intro A_y0 c_y0 y0 w1 Ny0 HS; simp only [List.set_cons_zero, List.set_cons_succ] at HS; refine hK _ _ ?_; clear hK K) | ((with_reducible refine gate_store (t := 24) (p := 23) rfl ?_); refine stL HS 0 2 #[.int .i64 (d : Int), .int .i64 (n : Int), (.slice A_y0 y0.length c_y0)] rfl rfl rfl rfl rfl ?_; clear HS; intro w1 HS) | ((with_reducible refine gate_dst (N := 24) rfl ?_); refine wpList_stp (fun K hK => ?_); refine stp_lit (KT) rfl 38 (by rfl) HS (xs := ([] : Ts)) (inner := []) (by first | (go_simp; done) | (go_simp; rfl)) (fun W base ok => Reps.none _ _) (by simp) ?_; clear HS; intro A_s c_s w1 HS; refine hK _ _ ?_; clear hK K))
  go_loopw [9, 10] (fun x v w' => ∃ (i : Nat) (C : Option Addr) (cs : Nat) (sc : Ts), i ≤ l2.length ∧ v = .int .i64 (i : Int) ∧ x = .slice C sc.length cs ∧ Aside0 ((l2.take i).foldlM (scF k) [] = some sc) ∧ Aside0 (Mod w w' No [rowT C cs sc, bx g_q 26 #[.int .i64 (d : Int), .int .i64 (n : Int), (.slice A_y0 y0.length c_y0)], rw' (KT) rfl 38 (.slice A_y0 (y0).length c_y0) (y0), bx g_r 26 #[(.int .i64 0), (.int .i64 0), (.slice none 0 0)], bx g_kk 34 #[.int .i64 k.1, .int .i64 k.2], bx g_a 26 #[.int .i64 (d : Int), .int .i64 (n : Int), .slice A2 l2.length cc], bx g_p 26 #[.int .i64 (d : Int), .int .i64 (n : Int), .slice A l.length c]])) (fun _ v _ => l2.length - (intOf v).toNat)
  case atStart => exact ⟨0, A_s, c_s, [], by omega, rfl, rfl, ⟨rfl⟩, HS⟩
  case round =>
    clear HS
    obtain ⟨i, C, cs, sc, hi, rfl, rfl, HZ, HS⟩ := hrel
    by_cases hlt : i < l2.length
    · have hzl : sc.length ≤ 1048576 := by have := scF_run HZ.out; rw [List.length_take] at this; simp at this; omega
      have HN := Aside0.mk (foldM_next (scF k) l2 [] hlt)
      have hsm := HSM.out i hlt
      have hgt := Aside0.mk (getD_lt l2 zT i hlt)
      obtain ⟨ad_A2, ea_, h0_, h1_, h2_⟩ := tm_at HR2.out i (hlt)
      cases ea_
      obtain ⟨t, ht_⟩ : ∃ t_, t_ = l2.getD i zT := ⟨_, rfl⟩
      rw [← ht_] at h0_ h1_ h2_
      have Et := Aside0.mk ht_; have H0t := Aside0.mk h0_; have H1t := Aside0.mk h1_; have H2t := Aside0.mk h2_
      clear ht_ h0_ h1_ h2_
      rw [← Et.out] at hsm hgt
      rw [← hgt.out, HZ.out] at HN
      obtain ⟨m, hm⟩ : ∃ m, m = mul t.2 k := ⟨_, rfl⟩
      have HP := Aside0.mk (fun W => (hm.trans (mul_swap _ _)) ▸ specTimes k.1 k.2 t.2.1 t.2.2 W HKS.out hsm)
      have HM := Aside0.mk hm
      clear hm hgt
      cases m with
      | none =>
        have f1_ := HS.out.c 5 2 (v := .slice (some ad_A2) l2.length cc) rfl rfl
        go_wp2
        clear f1_
        replace HS := sD HS
        apply region_told ((fun (A0_ : Nat → Act) (a' : Act) (w' : World) => ∃ (g_u : Nat), a' = A0_ g_u ∧ Aside0 (Mod w w' No [bx g_u 34 #[.int .i64 0, .int .i64 0], rowT C cs sc, bx g_q 26 #[.int .i64 (d : Int), .int .i64 (n : Int), (.slice A_y0 y0.length c_y0)], rw' (KT) rfl 38 (.slice A_y0 (y0).length c_y0) (y0), bx g_r 26 #[(.int .i64 0), (.int .i64 0), (.slice none 0 0)], bx g_kk 34 #[.int .i64 k.1, .int .i64 k.2], bx g_a 26 #[.int .i64 (d : Int), .int .i64 (n : Int), .slice (some ad_A2) l2.length cc], bx g_p 26 #[.int .i64 (d : Int), .int .i64 (n : Int), .slice A l.length c]])) _)
        case h1 =>
          refine ps (.p 1 (.p 3 (.t 0 (.t 2 (.p 4 (.p 5 (.t 6 (.two 7 11 (.p 8 (.p 9 (.p 10 (.e 11 (.d 12 (.p 13 .done)))))) (.e 7 (.p 8 (.p 9 (.p 10 (.d 12 (.p 13 .done)))))))))))))) (fun w' => w'.cell? ⟨g_kk, 0, none⟩ = some (.int .i64 k.1) ∧ w'.cell? ⟨g_kk, 1, none⟩ = some (.int .i64 k.2) ∧ w'.cell? ⟨g_a, 2, none⟩ = some (.slice (some ad_A2) l2.length cc) ∧ w'.cell? ⟨(ad_A2.add (i * 3)).block, (ad_A2.add (i * 3)).off + 1, none⟩ = some (.int .i64 t.2.1) ∧ w'.cell? ⟨(ad_A2.add (i * 3)).block, (ad_A2.add (i * 3)).off + 1 + 1, none⟩ = some (.int .i64 t.2.2)) [12] ⟨HS.out.c 4 0 (v := .int .i64 k.1) rfl rfl, HS.out.c 4 1 (v := .int .i64 k.2) rfl rfl, HS.out.c 5 2 (v := .slice (some ad_A2) l2.length cc) rfl rfl, HS.out.old H1t.out, c2 (HS.out.old H2t.out)⟩ (fun hHeld => ?_)
          repeat (first | ((with_reducible refine gate_p ?_); refine rp rfl rfl ?_) | ((with_reducible refine gate_t ?_); refine rt rfl rfl hHeld ?_))
          refine run_two ?_ ?_
          · skip
            refine run_e rfl (fun K hK => ?_)
            refine gc Try.func121 (HP.out _) rfl rfl ?_
            rintro e_ w1 ⟨rfl, hb⟩
            refine ⟨_, rfl, ?_⟩
            replace HS := sB HS hb
            refine ge hK ⟨HS.out.c 4 0 (v := .int .i64 k.1) rfl rfl, HS.out.c 4 1 (v := .int .i64 k.2) rfl rfl, HS.out.c 5 2 (v := .slice (some ad_A2) l2.length cc) rfl rfl, HS.out.old H1t.out, c2 (HS.out.old H2t.out)⟩ (fun hHeld => ?_)
            repeat (first | ((with_reducible refine gate_p ?_); refine rp rfl rfl ?_) | ((with_reducible refine gate_t ?_); refine rt rfl rfl hHeld ?_))
            refine run_e rfl (fun K hK => ?_)
            refine bx1 34 #[(.int .i64 0), (.int .i64 0)] HS ?_
            intro g_u w1 hg_u HS
            refine ge hK ⟨HS.out.c 5 0 (v := .int .i64 k.1) rfl rfl, HS.out.c 5 1 (v := .int .i64 k.2) rfl rfl, HS.out.c 6 2 (v := .slice (some ad_A2) l2.length cc) rfl rfl, HS.out.old H1t.out, c2 (HS.out.old H2t.out)⟩ (fun hHeld => ?_)
            refine run_d rfl (fun K hK => ?_)
            refine st1 HS 0 0 #[.int .i64 0, .int .i64 0] rfl rfl rfl rfl rfl ?_
            intro w1 HS
            refine goD hK rfl ?_
            repeat (first | ((with_reducible refine gate_p ?_); refine rp rfl rfl ?_) | ((with_reducible refine gate_t ?_); refine rt rfl rfl hHeld ?_))
            refine run_done ?_
            exact ⟨g_u, rfl, HS⟩
          · skip
            refine run_e rfl (fun K hK => ?_)
            refine bx1 34 #[(.int .i64 0), (.int .i64 0)] HS ?_
            intro g_u w1 hg_u HS
            refine ge hK ⟨HS.out.c 5 0 (v := .int .i64 k.1) rfl rfl, HS.out.c 5 1 (v := .int .i64 k.2) rfl rfl, HS.out.c 6 2 (v := .slice (some ad_A2) l2.length cc) rfl rfl, HS.out.old H1t.out, c2 (HS.out.old H2t.out)⟩ (fun hHeld => ?_)
            refine run_e rfl (fun K hK => ?_)
            refine gc Try.func121 (HP.out _) rfl rfl ?_
            rintro e_ w1 ⟨rfl, hb⟩
            refine ⟨_, rfl, ?_⟩
            replace HS := sB HS hb
            refine ge hK ⟨HS.out.c 5 0 (v := .int .i64 k.1) rfl rfl, HS.out.c 5 1 (v := .int .i64 k.2) rfl rfl, HS.out.c 6 2 (v := .slice (some ad_A2) l2.length cc) rfl rfl, HS.out.old H1t.out, c2 (HS.out.old H2t.out)⟩ (fun hHeld => ?_)
            repeat (first | ((with_reducible refine gate_p ?_); refine rp rfl rfl ?_) | ((with_reducible refine gate_t ?_); refine rt rfl rfl hHeld ?_))
            refine run_d rfl (fun K hK => ?_)
            refine st1 HS 0 0 #[.int .i64 0, .int .i64 0] rfl rfl rfl rfl rfl ?_
            intro w1 HS
            refine goD hK rfl ?_
            repeat (first | ((with_reducible refine gate_p ?_); refine rp rfl rfl ?_) | ((with_reducible refine gate_t ?_); refine rt rfl rfl hHeld ?_))
            refine run_done ?_
            have n_ := HS.out.sel [0, 1, 2, 3, 4, 5, 6, 7] (by decide)
            simp only [List.filterMap_cons, List.filterMap_nil, List.getElem?_cons_zero, List.getElem?_cons_succ] at n_
            exact ⟨g_u, rfl, ⟨n_⟩⟩
        clear HS
        rintro a_ w1 ⟨g_u, rfl, HS⟩
        go_wp2_with (first | ((with_reducible refine gate_store (t := 26) (p := 6) rfl ?_); refine stL HS 4 0 #[(.int .i64 0), (.int .i64 0), (.slice none 0 0)] rfl rfl rfl rfl rfl ?_; clear HS; intro w1 HS))
        refine bodyPost_ret (results_cell_tmp_row rfl _ _ g_r 26 #[(.int .i64 0), (.int .i64 0), (.slice none 0 0)] (0, 0) _ rfl (HS.out.at (i := 4) rfl) Try.underlying26 rfl (by kernel_rfl)) rfl ?_
        have e_ : addkS l l2 k = none := by rw [HA.out, foldM_none _ _ _ (i + 1) (by rw [HN.out]; show scF k sc t = none; unfold scF; rw [← HM.out]; rfl)]; rfl
        rw [e_]
        exact ⟨none, 0, rfl, nilS (HS.out.sel [] (by decide))⟩
      | some v =>
        have f1_ := HS.out.c 5 2 (v := .slice (some ad_A2) l2.length cc) rfl rfl
        go_wp2
        clear f1_
        replace HS := sD HS
        apply region_told ((fun (A0_ : Nat → Act) (a' : Act) (w' : World) => ∃ (g_u : Nat), a' = A0_ g_u ∧ Aside0 (Mod w w' No [bx g_u 34 #[.int .i64 v.1, .int .i64 v.2], rw' (KT) rfl 38 (.slice C (sc).length cs) (sc), bx g_q 26 #[.int .i64 (d : Int), .int .i64 (n : Int), (.slice A_y0 y0.length c_y0)], rw' (KT) rfl 38 (.slice A_y0 (y0).length c_y0) (y0), bx g_r 26 #[(.int .i64 0), (.int .i64 0), (.slice none 0 0)], bx g_kk 34 #[.int .i64 k.1, .int .i64 k.2], bx g_a 26 #[.int .i64 (d : Int), .int .i64 (n : Int), .slice (some ad_A2) l2.length cc], bx g_p 26 #[.int .i64 (d : Int), .int .i64 (n : Int), .slice A l.length c]])) _)
        case h1 =>
          refine ps (.p 1 (.p 3 (.t 0 (.t 2 (.p 4 (.p 5 (.t 6 (.two 7 11 (.p 8 (.p 9 (.p 10 (.e 11 (.d 12 (.p 13 .done)))))) (.e 7 (.p 8 (.p 9 (.p 10 (.d 12 (.p 13 .done)))))))))))))) (fun w' => w'.cell? ⟨g_kk, 0, none⟩ = some (.int .i64 k.1) ∧ w'.cell? ⟨g_kk, 1, none⟩ = some (.int .i64 k.2) ∧ w'.cell? ⟨g_a, 2, none⟩ = some (.slice (some ad_A2) l2.length cc) ∧ w'.cell? ⟨(ad_A2.add (i * 3)).block, (ad_A2.add (i * 3)).off + 1, none⟩ = some (.int .i64 t.2.1) ∧ w'.cell? ⟨(ad_A2.add (i * 3)).block, (ad_A2.add (i * 3)).off + 1 + 1, none⟩ = some (.int .i64 t.2.2)) [12] ⟨HS.out.c 4 0 (v := .int .i64 k.1) rfl rfl, HS.out.c 4 1 (v := .int .i64 k.2) rfl rfl, HS.out.c 5 2 (v := .slice (some ad_A2) l2.length cc) rfl rfl, HS.out.old H1t.out, c2 (HS.out.old H2t.out)⟩ (fun hHeld => ?_)
          repeat (first | ((with_reducible refine gate_p ?_); refine rp rfl rfl ?_) | ((with_reducible refine gate_t ?_); refine rt rfl rfl hHeld ?_))
          refine run_two ?_ ?_
          · skip
            refine run_e rfl (fun K hK => ?_)
            refine gc Try.func121 (HP.out _) rfl rfl ?_
            rintro e_ w1 ⟨rfl, hb⟩
            refine ⟨_, rfl, ?_⟩
            replace HS := sB HS hb
            refine ge hK ⟨HS.out.c 4 0 (v := .int .i64 k.1) rfl rfl, HS.out.c 4 1 (v := .int .i64 k.2) rfl rfl, HS.out.c 5 2 (v := .slice (some ad_A2) l2.length cc) rfl rfl, HS.out.old H1t.out, c2 (HS.out.old H2t.out)⟩ (fun hHeld => ?_)
            repeat (first | ((with_reducible refine gate_p ?_); refine rp rfl rfl ?_) | ((with_reducible refine gate_t ?_); refine rt rfl rfl hHeld ?_))
            refine run_e rfl (fun K hK => ?_)
            refine bx1 34 #[(.int .i64 0), (.int .i64 0)] HS ?_
            intro g_u w1 hg_u HS
            refine ge hK ⟨HS.out.c 5 0 (v := .int .i64 k.1) rfl rfl, HS.out.c 5 1 (v := .int .i64 k.2) rfl rfl, HS.out.c 6 2 (v := .slice (some ad_A2) l2.length cc) rfl rfl, HS.out.old H1t.out, c2 (HS.out.old H2t.out)⟩ (fun hHeld => ?_)
            refine run_d rfl (fun K hK => ?_)
            refine st1 HS 0 0 #[.int .i64 v.1, .int .i64 v.2] rfl rfl rfl rfl rfl ?_
            intro w1 HS
            refine goD hK rfl ?_
            repeat (first | ((with_reducible refine gate_p ?_); refine rp rfl rfl ?_) | ((with_reducible refine gate_t ?_); refine rt rfl rfl hHeld ?_))
            refine run_done ?_
            exact ⟨g_u, rfl, HS⟩
          · skip
            refine run_e rfl (fun K hK => ?_)
            refine bx1 34 #[(.int .i64 0), (.int .i64 0)] HS ?_
            intro g_u w1 hg_u HS
            refine ge hK ⟨HS.out.c 5 0 (v := .int .i64 k.1) rfl rfl, HS.out.c 5 1 (v := .int .i64 k.2) rfl rfl, HS.out.c 6 2 (v := .slice (some ad_A2) l2.length cc) rfl rfl, HS.out.old H1t.out, c2 (HS.out.old H2t.out)⟩ (fun hHeld => ?_)
            refine run_e rfl (fun K hK => ?_)
            refine gc Try.func121 (HP.out _) rfl rfl ?_
            rintro e_ w1 ⟨rfl, hb⟩
            refine ⟨_, rfl, ?_⟩
            replace HS := sB HS hb
            refine ge hK ⟨HS.out.c 5 0 (v := .int .i64 k.1) rfl rfl, HS.out.c 5 1 (v := .int .i64 k.2) rfl rfl, HS.out.c 6 2 (v := .slice (some ad_A2) l2.length cc) rfl rfl, HS.out.old H1t.out, c2 (HS.out.old H2t.out)⟩ (fun hHeld => ?_)
            repeat (first | ((with_reducible refine gate_p ?_); refine rp rfl rfl ?_) | ((with_reducible refine gate_t ?_); refine rt rfl rfl hHeld ?_))
            refine run_d rfl (fun K hK => ?_)
            refine st1 HS 0 0 #[.int .i64 v.1, .int .i64 v.2] rfl rfl rfl rfl rfl ?_
            intro w1 HS
            refine goD hK rfl ?_
            repeat (first | ((with_reducible refine gate_p ?_); refine rp rfl rfl ?_) | ((with_reducible refine gate_t ?_); refine rt rfl rfl hHeld ?_))
            refine run_done ?_
            have n_ := HS.out.sel [0, 1, 2, 3, 4, 5, 6, 7] (by decide)
            simp only [List.filterMap_cons, List.filterMap_nil, List.getElem?_cons_zero, List.getElem?_cons_succ] at n_
            exact ⟨g_u, rfl, ⟨n_⟩⟩
        clear HS
        rintro a_ w1 ⟨g_u, rfl, HS⟩
        go_wp2
        replace HS := sD HS
        refine ps (.p 0 (.p 1 (.p 3 (.t 2 (.p 4 (.p 5 (.t 6 (.t 7 (.p 8 (.d 9 (.d 10 (.p 11 .done)))))))))))) (fun w' => w'.cell? ⟨g_a, 2, none⟩ = some (.slice (some ad_A2) l2.length cc) ∧ w'.cell? (ad_A2.add (i * 3)) = some (.string t.1) ∧ w'.cell? ⟨g_u, 0, none⟩ = some (.int .i64 v.1) ∧ w'.cell? ⟨g_u, 1, none⟩ = some (.int .i64 v.2)) [9, 10] ⟨HS.out.c 6 2 (v := .slice (some ad_A2) l2.length cc) rfl rfl, HS.out.old H0t.out, HS.out.c 0 0 (v := .int .i64 v.1) rfl rfl, HS.out.c 0 1 (v := .int .i64 v.2) rfl rfl⟩ (fun hHeld => ?_)
        repeat (first | ((with_reducible refine gate_p ?_); refine rp rfl rfl ?_) | ((with_reducible refine gate_t ?_); refine rt rfl rfl hHeld ?_))
        refine run_d rfl (fun K hK => ?_)
        refine stp_lit (KT) rfl 38 (by rfl) HS (xs := [((t.1, v) : Tm)]) (inner := [.string t.1, .int .i64 v.1, .int .i64 v.2]) (by first | (go_simp; done) | (go_simp; rfl)) (fun W base ok => Reps.snoc (Reps.none _ _) (KT_M (t.1, v) W base ok) rfl) (by simp) ?_
        clear HS
        intro A_z c_z w1 HS
        refine gd hK ?_
        clear hK K
        refine run_d rfl (fun K hK => ?_)
        refine stp_rows KT rfl (fun _ _ _ _ _ h => h) (by rfl) HS 2 rfl (.tmp 46) (.tmp 55) 24 (.agg #[(.string ⟨#[]⟩), (.int .i64 0), (.int .i64 0)]) 32 rfl Try.underlying24 infoTerm (by kernel_rfl) [((t.1, v) : Tm)] rfl rfl (HS.out.reads 0 rfl) (by show (sc.length + 1) * 32 ≤ _; omega) ?_
        clear HS
        intro A_y' c_y' y' w1 Ny' HS
        simp only [List.set_cons_zero, List.set_cons_succ] at HS
        refine gd hK ?_
        clear hK K
        repeat (first | ((with_reducible refine gate_p ?_); refine rp rfl rfl ?_) | ((with_reducible refine gate_t ?_); refine rt rfl rfl hHeld ?_))
        refine run_done ?_
        clear hHeld
        go_wp2
        replace HS : Aside0 (Mod _ _ _ [_, _, _, _, _, _, _]) := sX HS [2, 3, 4, 5, 6, 7, 8]
        go_roundw
        case rel => exact ⟨i + 1, A_y', c_y', y', by omega, by go_num, rfl, ⟨by rw [HN.out, Ny'.out]; show scF k sc t = _; unfold scF; rw [← HM.out]; rfl⟩, HS⟩
        case measure => simp [intOf]; omega
    · obtain rfl : i = l2.length := by omega
      have HZ2 := Aside0.mk (show l2.foldlM (scF k) [] = some sc by have := HZ.out; rwa [List.take_length] at this)
      have HTS := Aside0.mk (HT.out sc HZ2.out)
      have HA2 := Aside0.mk (show addkS l l2 k = sumS l sc by rw [HA.out, HZ2.out]; rfl)
      have hll3 := (bnd_iff.1 (isTs_bnd hd hn HTS.out)).1
      clear HA HZ
      have f1_ := HS.out.c 5 2 (v := .slice A2 l2.length cc) rfl rfl
      go_wp2
      go_loopw [13] (fun v w' => ∃ (j : Nat) (B : Option Addr) (b : Nat) (z : Ts), j ≤ sc.length ∧ v = .int .i64 (j : Int) ∧ Aside0 ((sc.take j).foldlM putF l = some z) ∧ Aside0 (Mod w w' No [rowT C cs sc, bx g_q 26 #[.int .i64 (d : Int), .int .i64 (n : Int), .slice B z.length b], rowT B b z, bx g_r 26 #[(.int .i64 0), (.int .i64 0), (.slice none 0 0)], bx g_kk 34 #[.int .i64 k.1, .int .i64 k.2], bx g_a 26 #[.int .i64 (d : Int), .int .i64 (n : Int), .slice A2 l2.length cc], bx g_p 26 #[.int .i64 (d : Int), .int .i64 (n : Int), .slice A l.length c]])) (fun v _ => sc.length - (intOf v).toNat)
      case atStart => exact ⟨0, A_y0, c_y0, y0, by omega, rfl, ⟨by rw [Ny0.out]; rfl⟩, HS⟩
      case round =>
        clear HS
        obtain ⟨j, B, b, z, hj, rfl, HZ, HS⟩ := hrel
        have HZT := Aside0.mk (sum_take HX.out HTS.out j HZ.out)
        by_cases hjl : j < sc.length
        · have HN := Aside0.mk (foldM_next putF sc l hjl)
          obtain ⟨t, ht⟩ : ∃ t, t = sc[j] := ⟨_, rfl⟩
          have hjt := (List.getElem?_eq_getElem hjl).trans (congrArg some ht.symm)
          have HJ := Aside0.mk hjt
          have htm : isTm d n t = true := (isTs_iff.1 HTS.out).1 _ (List.mem_of_getElem? hjt)
          obtain ⟨ad, ea, _⟩ := tm_at (HS.out.reads 0 rfl) j hjl
          cases ea
          rw [← ht, HZ.out] at HN
          obtain ⟨z1, z2, z3, z4⟩ := isTm_fr htm
          have HSMT := Aside0.mk (fr_small z1)
          have hs5 : t.1.size ≤ 1048576 := by omega
          clear htm z1 z2 z3 ht hjt
          obtain ⟨g, hg⟩ : ∃ g, g = put z t.1 t.2 := ⟨_, rfl⟩
          have HP := Aside0.mk (fun W k1 k2 => hg ▸ specPut B b z t.1 t.2.1 t.2.2 W k1 k2 (isTs_bnd hd hn HZT.out) (isTs_small HZT.out) hs5 HSMT.out)
          have HG := Aside0.mk hg
          clear hg
          cases g with
          | none =>
            go_wp2
            replace HS := sD HS
            refine ps (.p 0 (.p 2 (.p 3 (.p 4 (.p 5 (.p 7 (.p 8 (.p 9 (.p 10 (.t 1 (.t 6 (.t 11 (.d 12 (.p 13 (.p 14 (.p 15 (.p 16 (.p 17 .done)))))))))))))))))) (fun w' => w'.cell? ⟨g_q, 2, none⟩ = some (.slice B z.length b) ∧ w'.cell? (ad.add (j * 3)) = some (.string t.1) ∧ w'.cell? ⟨(ad.add (j * 3)).block, (ad.add (j * 3)).off + 1, none⟩ = some (.int .i64 t.2.1) ∧ w'.cell? ⟨(ad.add (j * 3)).block, (ad.add (j * 3)).off + 1 + 1, none⟩ = some (.int .i64 t.2.2)) [12] ⟨HS.out.c 1 2 (v := .slice B z.length b) rfl rfl, (HS.out.tm 0 rfl HJ.out).1, (HS.out.tm 0 rfl HJ.out).2.1, c2 ((HS.out.tm 0 rfl HJ.out).2.2)⟩ (fun hHeld => ?_)
            repeat (first | ((with_reducible refine gate_p ?_); refine rp rfl rfl ?_) | ((with_reducible refine gate_t ?_); refine rt rfl rfl hHeld ?_))
            refine run_d rfl (fun K hK => ?_)
            refine gc Try.func110 (HP.out _ (HS.out.reads 2 rfl) (HS.out.cap 2 rfl)) rfl rfl ?_
            rintro e_ w1 ⟨B2, b2, rfl, hs⟩
            refine ⟨_, rfl, ?_⟩
            replace HS := sN1 HS hs
            clear hs
            refine gd hK ?_
            clear hK K
            repeat (first | ((with_reducible refine gate_p ?_); refine rp rfl rfl ?_) | ((with_reducible refine gate_t ?_); refine rt rfl rfl hHeld ?_))
            refine run_done ?_
            clear hHeld
            go_wp2_with (first | ((with_reducible refine gate_store (t := 26) (p := 6) rfl ?_); refine stL HS 4 0 #[(.int .i64 0), (.int .i64 0), (.slice none 0 0)] rfl rfl rfl rfl rfl ?_; clear HS; intro w1 HS))
            refine bodyPost_ret (results_cell_tmp_row rfl _ _ g_r 26 #[(.int .i64 0), (.int .i64 0), (.slice none 0 0)] (0, 0) _ rfl (HS.out.at (i := 4) rfl) Try.underlying26 rfl (by kernel_rfl)) rfl ?_
            have e_ : addkS l l2 k = none := by rw [HA2.out]; exact foldM_none _ _ _ (j + 1) (by rw [HN.out]; show putF z t = none; unfold putF; rw [← HG.out])
            rw [e_]
            exact ⟨none, 0, rfl, nilS (HS.out.sel [] (by decide))⟩
          | some v =>
            go_wp2
            replace HS := sD HS
            refine ps (.p 0 (.p 2 (.p 3 (.p 4 (.p 5 (.p 7 (.p 8 (.p 9 (.p 10 (.t 1 (.t 6 (.t 11 (.d 12 (.p 13 (.p 14 (.p 15 (.p 16 (.p 17 .done)))))))))))))))))) (fun w' => w'.cell? ⟨g_q, 2, none⟩ = some (.slice B z.length b) ∧ w'.cell? (ad.add (j * 3)) = some (.string t.1) ∧ w'.cell? ⟨(ad.add (j * 3)).block, (ad.add (j * 3)).off + 1, none⟩ = some (.int .i64 t.2.1) ∧ w'.cell? ⟨(ad.add (j * 3)).block, (ad.add (j * 3)).off + 1 + 1, none⟩ = some (.int .i64 t.2.2)) [12] ⟨HS.out.c 1 2 (v := .slice B z.length b) rfl rfl, (HS.out.tm 0 rfl HJ.out).1, (HS.out.tm 0 rfl HJ.out).2.1, c2 ((HS.out.tm 0 rfl HJ.out).2.2)⟩ (fun hHeld => ?_)
            repeat (first | ((with_reducible refine gate_p ?_); refine rp rfl rfl ?_) | ((with_reducible refine gate_t ?_); refine rt rfl rfl hHeld ?_))
            refine run_d rfl (fun K hK => ?_)
            refine gc Try.func110 (HP.out _ (HS.out.reads 2 rfl) (HS.out.cap 2 rfl)) rfl rfl ?_
            rintro e_ w1 ⟨B2, b2, rfl, hs⟩
            refine ⟨_, rfl, ?_⟩
            replace HS := sN1 HS hs
            clear hs
            refine gd hK ?_
            clear hK K
            repeat (first | ((with_reducible refine gate_p ?_); refine rp rfl rfl ?_) | ((with_reducible refine gate_t ?_); refine rt rfl rfl hHeld ?_))
            refine run_done ?_
            clear hHeld
            go_wp2_with (first | ((with_reducible refine gate_store (t := 24) (p := 83) rfl ?_); refine stL HS 2 2 #[.int .i64 (d : Int), .int .i64 (n : Int), (.slice B2 v.length b2)] rfl rfl rfl rfl rfl ?_; clear HS; intro w1 HS))
            go_roundw
            case rel => exact ⟨j + 1, B2, b2, v, by omega, by go_num, ⟨by rw [HN.out]; show putF z t = _; unfold putF; rw [← HG.out]⟩, sX HS [1, 2, 0, 4, 5, 6, 7]⟩
            case measure => simp [intOf]; omega
        · obtain rfl : j = sc.length := by omega
          have f1_ := HS.out.c 1 0 (v := .int .i64 (d : Int)) rfl rfl
          have f2_ := HS.out.c 1 1 (v := .int .i64 (n : Int)) rfl rfl
          have f3_ := HS.out.c 1 2 (v := .slice B z.length b) rfl rfl
          go_wp2_with (first | ((with_reducible refine gate_store (t := 26) (p := 6) rfl ?_); refine stL HS 3 0 #[.int .i64 (d : Int), .int .i64 (n : Int), .slice B z.length b] rfl rfl rfl rfl rfl ?_; clear HS f1_ f2_ f3_; intro w1 HS))
          refine bodyPost_ret (results_cell_tmp_row rfl _ _ g_r 26 #[.int .i64 (d : Int), .int .i64 (n : Int), .slice B z.length b] (0, 0) _ rfl (HS.out.at (i := 3) rfl) Try.underlying26 rfl (by kernel_rfl)) rfl ?_
          have e_ : addkS l l2 k = some z := by rw [HA2.out]; have := HZ.out; rwa [List.take_length] at this
          rw [e_]
          exact ⟨B, b, rfl, HS.out.sel [2] (by decide)⟩
end Go.Proofs.Ytibjkjhpfmmjoaa.H



namespace Go.Proofs.Ytibjkjhpfmmjoaa.M
theorem com_rel {d n : Nat} (hd : d ≤ 9) (x y : Ts) : ∃ F, Rel d n (comS d n x y) F :=
  ⟨_, sum_relT hd (mul_rel (n := n) hd x y) (scale_relT hd (mul_rel (n := n) hd y x) (a := (-1, 1)) (by decide))⟩
end Go.Proofs.Ytibjkjhpfmmjoaa.M
namespace Go.Proofs.Ytibjkjhpfmmjoaa.H
open Go.RowKit Go.Proofs.YtibjkjhpfmmjoaaW.PrintWords Go.Proofs.YtibjkjhpfmmjoaaW.PrintLast Go.Proofs.YtibjkjhpfmmjoaaW.PrintMore Go.Proofs.Ytibjkjhpfmmjoaa.M
attribute [local go_sem] max2_int min2_int max_two min_two max_three min_three max_four min_four resQ
set_option linter.unusedVariables false
set_option linter.unusedSimpArgs false
set_option maxRecDepth 100000
set_option maxHeartbeats 8000000 in
theorem tabCom {w : World} {d n g1 v1 g2 v2 : Nat} {F1 F2 : Tb} {o1 o2 : Option Ts} (hl : lev d n = true) (h1 : TabI w g1 v1 d n F1 o1) (h2 : TabI w g2 v2 d n F2 o2) :
    Calls Try.prog 72 #[.pointer (some ⟨g1, 0, none⟩), .pointer (some ⟨g2, 0, none⟩)] w (RetT w d n (two sumS (two (mulS d n) o1 o2) ((two (mulS d n) o2 o1).bind fun q => scS q (-1, 1)))) := by
  have HL := Aside0.mk hl
  have H1 := Aside0.mk h1
  have H2 := Aside0.mk h2
  have HS := Aside0.mk (Sep.refl w)
  clear hl h1 h2
  go_enter Try.func72, Try.ntmps72
  have tk1_ : True := trivial
  go_wp2_with (first | (go_at_call 68; clear tk1_; refine (tabTimes HL.out (H1.out.old HS.out) (H2.out.old HS.out)).mono ?_; rintro e_ w1 ⟨ga, va, Fa, rfl, hF, hQ, hs⟩; replace HS := sN2 HS hs; clear hs; have HFa := Aside0.mk hF; have HQa := Aside0.mk hQ; clear hF hQ) | (go_at_call 68; refine (tabTimes HL.out (H2.out.old HS.out) (H1.out.old HS.out)).mono ?_; rintro e_ w1 ⟨gb, vb, Fb, rfl, hF, hQ, hs⟩; replace HS := sN2 HS hs; clear hs; have HFb := Aside0.mk hF; have HQb := Aside0.mk hQ; clear hF hQ) | (go_at_call 86; refine (implWhole (-1) _).mono ?_; rintro e_ w1 ⟨rfl, hb⟩; replace HS := sB HS hb; clear hb) | (go_at_call 123; refine (tabScaled HL.out ⟨HFb.out, HQb.out, HS.out.at (i := 0) rfl, HS.out.at (i := 1) rfl⟩ (a := (-1, 1)) (by decide)).mono ?_; rintro e_ w1 ⟨gc, vc, Fc, rfl, hF, hQ, hs⟩; replace HS := sN2 HS hs; clear hs; have HFc := Aside0.mk hF; have HQc := Aside0.mk hQ; clear hF hQ) | (go_at_call 98; refine (tabSum HL.out ⟨HFa.out, HQa.out, HS.out.at (i := 4) rfl, HS.out.at (i := 5) rfl⟩ ⟨HFc.out, HQc.out, HS.out.at (i := 0) rfl, HS.out.at (i := 1) rfl⟩).mono ?_; rintro e_ w1 ⟨gd, vd, Fd, rfl, hF, hQ, hs⟩; replace HS := sN2 HS hs; clear hs; have HFd := Aside0.mk hF; have HQd := Aside0.mk hQ; clear hF hQ))
  go_ret
  exact ⟨gd, vd, Fd, rfl, HFd.out, HQd.out, HS.out.sel [0, 1] (by decide)⟩
set_option maxHeartbeats 8000000 in
theorem specComQ (d n : Nat) (hd : d ≤ 3) (hn : n ≤ 5) (A : Option Addr) (c : Nat) (l : Ts) (A2 : Option Addr) (cc : Nat) (l2 : Ts) (w : World) (hr : KT.C w A l.length l) (hc : l.length ≤ c) (hr2 : KT.C w A2 l2.length l2) (hcc : l2.length ≤ cc) (hx : isTs d n l = true) (hy : isTs d n l2 = true) :
    Calls Try.prog 73 #[.agg #[.int .i64 (d : Int), .int .i64 (n : Int), .slice A l.length c], .agg #[.int .i64 (d : Int), .int .i64 (n : Int), .slice A2 l2.length cc]] w (RetQ w (resQ d n (comS d n l l2))) := by
  have hd9 : d ≤ 9 := by omega
  have HR := Aside0.mk hr
  have HR2 := Aside0.mk hr2
  have HP := Aside0.mk (fun W k1 k2 => specTimes2 d n hd hn A c l A2 cc l2 W k1 hc k2 hcc hx hy)
  have HP2 := Aside0.mk (fun W k1 k2 => specTimes2 d n hd hn A2 cc l2 A c l W k2 hcc k1 hc hy hx)
  have HS := Aside0.mk (Sep.refl w)
  obtain ⟨o1, ho1⟩ : ∃ o1, o1 = mulS d n l l2 := ⟨_, rfl⟩
  obtain ⟨o2, ho2⟩ : ∃ o2, o2 = mulS d n l2 l := ⟨_, rfl⟩
  have HO := Aside0.mk (show comS d n l l2 = two sumS o1 (o2.bind fun q => scS q (-1, 1)) by rw [ho1, ho2]; rfl)
  have HT1 := Aside0.mk (fun p (h : o1 = some p) => mul_ts hd9 (ho1.symm.trans h))
  have HT2 := Aside0.mk (fun p (h : o2 = some p) => mul_ts hd9 (ho2.symm.trans h))
  rw [← ho1] at HP
  rw [← ho2] at HP2
  rw [HO.out]
  clear hr hr2 hx hy ho1 ho2 HO
  cases o1 with
  | none =>
    obtain ⟨R, hR⟩ : ∃ R, R = resQ d n o2 := ⟨_, rfl⟩
    rw [← hR] at HP2
    clear hR
    go_enter Try.func73, Try.ntmps73
    have tk2_ : True := trivial
    go_wp2_with (first | ((with_reducible refine gate_dst (N := 2) rfl ?_); refine bxL 26 #[.int .i64 (d : Int), .int .i64 (n : Int), .slice A l.length c] HS ?_; clear HS; intro g_p w1 hg_p HS) | ((with_reducible refine gate_dst (N := 3) rfl ?_); refine bxL 26 #[.int .i64 (d : Int), .int .i64 (n : Int), .slice A2 l2.length cc] HS ?_; clear HS; intro g_a w1 hg_a HS) | ((with_reducible refine gate_dst (N := 4) rfl ?_); refine bxL 26 #[(.int .i64 0), (.int .i64 0), (.slice none 0 0)] HS ?_; clear HS; intro g_r w1 hg_r HS; have f1_ := HS.out.c 2 0 (v := .int .i64 (d : Int)) rfl rfl; have f2_ := HS.out.c 2 1 (v := .int .i64 (n : Int)) rfl rfl; have f3_ := HS.out.c 2 2 (v := .slice A l.length c) rfl rfl; have f4_ := HS.out.c 1 0 (v := .int .i64 (d : Int)) rfl rfl; have f5_ := HS.out.c 1 1 (v := .int .i64 (n : Int)) rfl rfl; have f6_ := HS.out.c 1 2 (v := .slice A2 l2.length cc) rfl rfl) | (go_at_call 71; clear tk2_; refine (HP.out _ (HS.out.oldC HR.out) (HS.out.oldC HR2.out)).mono ?_; rintro e_ w1 ⟨B, b, rfl, hs⟩; replace HS := sN1 HS hs; clear hs f1_ f2_ f3_ f4_ f5_ f6_) | ((with_reducible refine gate_dst (N := 6) rfl ?_); refine bxL 26 #[(.int .i64 0), (.int .i64 0), (.slice none 0 0)] HS ?_; clear HS; intro g_x w1 hg_x HS) | ((with_reducible refine gate_store (t := 26) (p := 6) rfl ?_); refine stL HS 0 0 #[.int .i64 0, .int .i64 0, .slice B ([] : Ts).length b] rfl rfl rfl rfl rfl ?_; clear HS; intro w1 HS; have f1_ := HS.out.c 3 0 (v := .int .i64 (d : Int)) rfl rfl; have f2_ := HS.out.c 3 1 (v := .int .i64 (n : Int)) rfl rfl; have f3_ := HS.out.c 3 2 (v := .slice A2 l2.length cc) rfl rfl; have f4_ := HS.out.c 4 0 (v := .int .i64 (d : Int)) rfl rfl; have f5_ := HS.out.c 4 1 (v := .int .i64 (n : Int)) rfl rfl; have f6_ := HS.out.c 4 2 (v := .slice A l.length c) rfl rfl) | (go_at_call 71; refine (HP2.out _ (HS.out.oldC HR.out) (HS.out.oldC HR2.out)).mono ?_; rintro e_ w1 ⟨B2, b2, rfl, hs⟩; replace HS := sN1 HS hs; clear hs f1_ f2_ f3_ f4_ f5_ f6_) | ((with_reducible refine gate_dst (N := 8) rfl ?_); refine bxL 26 #[(.int .i64 0), (.int .i64 0), (.slice none 0 0)] HS ?_; clear HS; intro g_y w1 hg_y HS) | ((with_reducible refine gate_store (t := 26) (p := 8) rfl ?_); refine stL HS 0 0 #[.int .i64 R.1, .int .i64 R.2.1, .slice B2 R.2.2.1.length b2] rfl rfl rfl rfl rfl ?_; clear HS; intro w1 HS) | ((with_reducible refine gate_store (t := 26) (p := 4) rfl ?_); refine stL HS 4 0 #[(.int .i64 0), (.int .i64 0), (.slice none 0 0)] rfl rfl rfl rfl rfl ?_; clear HS; intro w1 HS))
    refine bodyPost_ret (results_cell_tmp_row rfl _ _ g_r 26 #[(.int .i64 0), (.int .i64 0), (.slice none 0 0)] (0, 0) _ rfl (HS.out.at (i := 4) rfl) Try.underlying26 rfl (by kernel_rfl)) rfl ?_
    exact ⟨none, 0, rfl, nilS (HS.out.sel [] (by decide))⟩
  | some p =>
    cases o2 with
    | none =>
      go_enter Try.func73, Try.ntmps73
      have tk3_ : True := trivial
      go_wp2_with (first | ((with_reducible refine gate_dst (N := 2) rfl ?_); refine bxL 26 #[.int .i64 (d : Int), .int .i64 (n : Int), .slice A l.length c] HS ?_; clear HS; intro g_p w1 hg_p HS) | ((with_reducible refine gate_dst (N := 3) rfl ?_); refine bxL 26 #[.int .i64 (d : Int), .int .i64 (n : Int), .slice A2 l2.length cc] HS ?_; clear HS; intro g_a w1 hg_a HS) | ((with_reducible refine gate_dst (N := 4) rfl ?_); refine bxL 26 #[(.int .i64 0), (.int .i64 0), (.slice none 0 0)] HS ?_; clear HS; intro g_r w1 hg_r HS; have f1_ := HS.out.c 2 0 (v := .int .i64 (d : Int)) rfl rfl; have f2_ := HS.out.c 2 1 (v := .int .i64 (n : Int)) rfl rfl; have f3_ := HS.out.c 2 2 (v := .slice A l.length c) rfl rfl; have f4_ := HS.out.c 1 0 (v := .int .i64 (d : Int)) rfl rfl; have f5_ := HS.out.c 1 1 (v := .int .i64 (n : Int)) rfl rfl; have f6_ := HS.out.c 1 2 (v := .slice A2 l2.length cc) rfl rfl) | (go_at_call 71; clear tk3_; refine (HP.out _ (HS.out.oldC HR.out) (HS.out.oldC HR2.out)).mono ?_; rintro e_ w1 ⟨B, b, rfl, hs⟩; replace HS := sN1 HS hs; clear hs f1_ f2_ f3_ f4_ f5_ f6_) | ((with_reducible refine gate_dst (N := 6) rfl ?_); refine bxL 26 #[(.int .i64 0), (.int .i64 0), (.slice none 0 0)] HS ?_; clear HS; intro g_x w1 hg_x HS) | ((with_reducible refine gate_store (t := 26) (p := 6) rfl ?_); refine stL HS 0 0 #[.int .i64 (d : Int), .int .i64 (n : Int), .slice B p.length b] rfl rfl rfl rfl rfl ?_; clear HS; intro w1 HS; have f1_ := HS.out.c 3 0 (v := .int .i64 (d : Int)) rfl rfl; have f2_ := HS.out.c 3 1 (v := .int .i64 (n : Int)) rfl rfl; have f3_ := HS.out.c 3 2 (v := .slice A2 l2.length cc) rfl rfl; have f4_ := HS.out.c 4 0 (v := .int .i64 (d : Int)) rfl rfl; have f5_ := HS.out.c 4 1 (v := .int .i64 (n : Int)) rfl rfl; have f6_ := HS.out.c 4 2 (v := .slice A l.length c) rfl rfl) | (go_at_call 71; refine (HP2.out _ (HS.out.oldC HR.out) (HS.out.oldC HR2.out)).mono ?_; rintro e_ w1 ⟨B2, b2, rfl, hs⟩; replace HS := sN1 HS hs; clear hs f1_ f2_ f3_ f4_ f5_ f6_) | ((with_reducible refine gate_dst (N := 8) rfl ?_); refine bxL 26 #[(.int .i64 0), (.int .i64 0), (.slice none 0 0)] HS ?_; clear HS; intro g_y w1 hg_y HS) | ((with_reducible refine gate_store (t := 26) (p := 8) rfl ?_); refine stL HS 0 0 #[.int .i64 0, .int .i64 0, .slice B2 ([] : Ts).length b2] rfl rfl rfl rfl rfl ?_; clear HS; intro w1 HS) | ((with_reducible refine gate_store (t := 26) (p := 4) rfl ?_); refine stL HS 4 0 #[(.int .i64 0), (.int .i64 0), (.slice none 0 0)] rfl rfl rfl rfl rfl ?_; clear HS; intro w1 HS))
      refine bodyPost_ret (results_cell_tmp_row rfl _ _ g_r 26 #[(.int .i64 0), (.int .i64 0), (.slice none 0 0)] (0, 0) _ rfl (HS.out.at (i := 4) rfl) Try.underlying26 rfl (by kernel_rfl)) rfl ?_
      exact ⟨none, 0, rfl, nilS (HS.out.sel [] (by decide))⟩
    | some q =>
      have HA := Aside0.mk (fun B b B2 b2 W k1 k2 => specAddk d n hd hn B b p B2 b2 q (-1, 1) W k1 k2 (HT1.out p rfl) (HT2.out q rfl) (by decide) (by decide))
      obtain ⟨R, hR⟩ : ∃ R, R = resQ d n (addkS p q (-1, 1)) := ⟨_, rfl⟩
      rw [← hR] at HA
      rw [show resQ d n (two sumS (some p) ((some q).bind fun q => scS q (-1, 1))) = R from hR.symm]
      clear hR
      go_enter Try.func73, Try.ntmps73
      have tk4_ : True := trivial
      go_wp2_with (first | ((with_reducible refine gate_dst (N := 2) rfl ?_); refine bxL 26 #[.int .i64 (d : Int), .int .i64 (n : Int), .slice A l.length c] HS ?_; clear HS; intro g_p w1 hg_p HS) | ((with_reducible refine gate_dst (N := 3) rfl ?_); refine bxL 26 #[.int .i64 (d : Int), .int .i64 (n : Int), .slice A2 l2.length cc] HS ?_; clear HS; intro g_a w1 hg_a HS) | ((with_reducible refine gate_dst (N := 4) rfl ?_); refine bxL 26 #[(.int .i64 0), (.int .i64 0), (.slice none 0 0)] HS ?_; clear HS; intro g_r w1 hg_r HS; have f1_ := HS.out.c 2 0 (v := .int .i64 (d : Int)) rfl rfl; have f2_ := HS.out.c 2 1 (v := .int .i64 (n : Int)) rfl rfl; have f3_ := HS.out.c 2 2 (v := .slice A l.length c) rfl rfl; have f4_ := HS.out.c 1 0 (v := .int .i64 (d : Int)) rfl rfl; have f5_ := HS.out.c 1 1 (v := .int .i64 (n : Int)) rfl rfl; have f6_ := HS.out.c 1 2 (v := .slice A2 l2.length cc) rfl rfl) | (go_at_call 71; clear tk4_; refine (HP.out _ (HS.out.oldC HR.out) (HS.out.oldC HR2.out)).mono ?_; rintro e_ w1 ⟨B, b, rfl, hs⟩; replace HS := sN1 HS hs; clear hs f1_ f2_ f3_ f4_ f5_ f6_) | ((with_reducible refine gate_dst (N := 6) rfl ?_); refine bxL 26 #[(.int .i64 0), (.int .i64 0), (.slice none 0 0)] HS ?_; clear HS; intro g_x w1 hg_x HS) | ((with_reducible refine gate_store (t := 26) (p := 6) rfl ?_); refine stL HS 0 0 #[.int .i64 (d : Int), .int .i64 (n : Int), .slice B p.length b] rfl rfl rfl rfl rfl ?_; clear HS; intro w1 HS; have f1_ := HS.out.c 3 0 (v := .int .i64 (d : Int)) rfl rfl; have f2_ := HS.out.c 3 1 (v := .int .i64 (n : Int)) rfl rfl; have f3_ := HS.out.c 3 2 (v := .slice A2 l2.length cc) rfl rfl; have f4_ := HS.out.c 4 0 (v := .int .i64 (d : Int)) rfl rfl; have f5_ := HS.out.c 4 1 (v := .int .i64 (n : Int)) rfl rfl; have f6_ := HS.out.c 4 2 (v := .slice A l.length c) rfl rfl) | (go_at_call 71; refine (HP2.out _ (HS.out.oldC HR.out) (HS.out.oldC HR2.out)).mono ?_; rintro e_ w1 ⟨B2, b2, rfl, hs⟩; replace HS := sN1 HS hs; clear hs f1_ f2_ f3_ f4_ f5_ f6_) | ((with_reducible refine gate_dst (N := 8) rfl ?_); refine bxL 26 #[(.int .i64 0), (.int .i64 0), (.slice none 0 0)] HS ?_; clear HS; intro g_y w1 hg_y HS) | ((with_reducible refine gate_store (t := 26) (p := 8) rfl ?_); refine stL HS 0 0 #[.int .i64 (d : Int), .int .i64 (n : Int), .slice B2 q.length b2] rfl rfl rfl rfl rfl ?_; clear HS; intro w1 HS))
      replace HS := sD HS
      apply region_told ((fun (A0_ : Option Addr → Nat → Nat → Act) (a' : Act) (w' : World) => ∃ (B3 : Option Addr) (b3 : Nat) (g_z : Nat), a' = A0_ B3 b3 g_z ∧ Aside0 (Mod w w' No [bx g_z 26 #[.int .i64 R.1, .int .i64 R.2.1, .slice B3 R.2.2.1.length b3], rowT B3 b3 R.2.2.1, bx g_y 26 #[.int .i64 (d : Int), .int .i64 (n : Int), .slice B2 q.length b2], rowT B2 b2 q, bx g_x 26 #[.int .i64 (d : Int), .int .i64 (n : Int), .slice B p.length b], rowT B b p, bx g_r 26 #[(.int .i64 0), (.int .i64 0), (.slice none 0 0)], bx g_a 26 #[.int .i64 (d : Int), .int .i64 (n : Int), .slice A2 l2.length cc], bx g_p 26 #[.int .i64 (d : Int), .int .i64 (n : Int), .slice A l.length c]])) _)
      case h1 =>
        refine ps (.t 0 (.t 1 (.two 2 7 (.two 3 7 (.p 4 (.p 5 (.p 6 (.e 7 (.d 8 (.p 9 .done)))))) (.e 3 (.p 4 (.p 5 (.p 6 (.d 8 (.p 9 .done))))))) (.e 2 (.e 3 (.p 4 (.p 5 (.p 6 (.d 8 (.p 9 .done)))))))))) (fun w' => w'.cell? ⟨g_x, 0, none⟩ = some (.int .i64 (d : Int)) ∧ w'.cell? ⟨g_x, 1, none⟩ = some (.int .i64 (n : Int)) ∧ w'.cell? ⟨g_x, 2, none⟩ = some (.slice B p.length b) ∧ w'.cell? ⟨g_y, 0, none⟩ = some (.int .i64 (d : Int)) ∧ w'.cell? ⟨g_y, 1, none⟩ = some (.int .i64 (n : Int)) ∧ w'.cell? ⟨g_y, 2, none⟩ = some (.slice B2 q.length b2)) [8] ⟨HS.out.c 2 0 (v := .int .i64 (d : Int)) rfl rfl, HS.out.c 2 1 (v := .int .i64 (n : Int)) rfl rfl, HS.out.c 2 2 (v := .slice B p.length b) rfl rfl, HS.out.c 0 0 (v := .int .i64 (d : Int)) rfl rfl, HS.out.c 0 1 (v := .int .i64 (n : Int)) rfl rfl, HS.out.c 0 2 (v := .slice B2 q.length b2) rfl rfl⟩ (fun hHeld => ?_)
        repeat (first | ((with_reducible refine gate_p ?_); refine rp rfl rfl ?_) | ((with_reducible refine gate_t ?_); refine rt rfl rfl hHeld ?_))
        refine run_two ?_ ?_
        · skip
          refine run_e rfl (fun K hK => ?_)
          refine gc Try.func119 (specOne (-1) _) rfl rfl ?_
          rintro e_ w1 ⟨rfl, hb⟩
          refine ⟨_, rfl, ?_⟩
          replace HS := sB HS hb
          refine ge hK ⟨HS.out.c 2 0 (v := .int .i64 (d : Int)) rfl rfl, HS.out.c 2 1 (v := .int .i64 (n : Int)) rfl rfl, HS.out.c 2 2 (v := .slice B p.length b) rfl rfl, HS.out.c 0 0 (v := .int .i64 (d : Int)) rfl rfl, HS.out.c 0 1 (v := .int .i64 (n : Int)) rfl rfl, HS.out.c 0 2 (v := .slice B2 q.length b2) rfl rfl⟩ (fun hHeld => ?_)
          refine run_two ?_ ?_
          · skip
            refine run_e rfl (fun K hK => ?_)
            refine gc Try.func124 (HA.out B b B2 b2 _ (HS.out.reads 3 rfl) (HS.out.reads 1 rfl)) rfl rfl ?_
            rintro e_ w1 ⟨B3, b3, rfl, hs⟩
            refine ⟨_, rfl, ?_⟩
            replace HS := sN1 HS hs
            refine ge hK ⟨HS.out.c 3 0 (v := .int .i64 (d : Int)) rfl rfl, HS.out.c 3 1 (v := .int .i64 (n : Int)) rfl rfl, HS.out.c 3 2 (v := .slice B p.length b) rfl rfl, HS.out.c 1 0 (v := .int .i64 (d : Int)) rfl rfl, HS.out.c 1 1 (v := .int .i64 (n : Int)) rfl rfl, HS.out.c 1 2 (v := .slice B2 q.length b2) rfl rfl⟩ (fun hHeld => ?_)
            repeat (first | ((with_reducible refine gate_p ?_); refine rp rfl rfl ?_) | ((with_reducible refine gate_t ?_); refine rt rfl rfl hHeld ?_))
            refine run_e rfl (fun K hK => ?_)
            refine bx1 26 #[(.int .i64 0), (.int .i64 0), (.slice none 0 0)] HS ?_
            intro g_z w1 hg_z HS
            refine ge hK ⟨HS.out.c 4 0 (v := .int .i64 (d : Int)) rfl rfl, HS.out.c 4 1 (v := .int .i64 (n : Int)) rfl rfl, HS.out.c 4 2 (v := .slice B p.length b) rfl rfl, HS.out.c 2 0 (v := .int .i64 (d : Int)) rfl rfl, HS.out.c 2 1 (v := .int .i64 (n : Int)) rfl rfl, HS.out.c 2 2 (v := .slice B2 q.length b2) rfl rfl⟩ (fun hHeld => ?_)
            refine run_d rfl (fun K hK => ?_)
            refine st1 HS 0 0 #[.int .i64 R.1, .int .i64 R.2.1, .slice B3 R.2.2.1.length b3] rfl rfl rfl rfl rfl ?_
            intro w1 HS
            refine goD hK rfl ?_
            repeat (first | ((with_reducible refine gate_p ?_); refine rp rfl rfl ?_) | ((with_reducible refine gate_t ?_); refine rt rfl rfl hHeld ?_))
            refine run_done ?_
            exact ⟨B3, b3, g_z, rfl, HS⟩
          · skip
            refine run_e rfl (fun K hK => ?_)
            refine bx1 26 #[(.int .i64 0), (.int .i64 0), (.slice none 0 0)] HS ?_
            intro g_z w1 hg_z HS
            refine ge hK ⟨HS.out.c 3 0 (v := .int .i64 (d : Int)) rfl rfl, HS.out.c 3 1 (v := .int .i64 (n : Int)) rfl rfl, HS.out.c 3 2 (v := .slice B p.length b) rfl rfl, HS.out.c 1 0 (v := .int .i64 (d : Int)) rfl rfl, HS.out.c 1 1 (v := .int .i64 (n : Int)) rfl rfl, HS.out.c 1 2 (v := .slice B2 q.length b2) rfl rfl⟩ (fun hHeld => ?_)
            refine run_e rfl (fun K hK => ?_)
            refine gc Try.func124 (HA.out B b B2 b2 _ (HS.out.reads 4 rfl) (HS.out.reads 2 rfl)) rfl rfl ?_
            rintro e_ w1 ⟨B3, b3, rfl, hs⟩
            refine ⟨_, rfl, ?_⟩
            replace HS := sN1 HS hs
            refine ge hK ⟨HS.out.c 4 0 (v := .int .i64 (d : Int)) rfl rfl, HS.out.c 4 1 (v := .int .i64 (n : Int)) rfl rfl, HS.out.c 4 2 (v := .slice B p.length b) rfl rfl, HS.out.c 2 0 (v := .int .i64 (d : Int)) rfl rfl, HS.out.c 2 1 (v := .int .i64 (n : Int)) rfl rfl, HS.out.c 2 2 (v := .slice B2 q.length b2) rfl rfl⟩ (fun hHeld => ?_)
            repeat (first | ((with_reducible refine gate_p ?_); refine rp rfl rfl ?_) | ((with_reducible refine gate_t ?_); refine rt rfl rfl hHeld ?_))
            refine run_d rfl (fun K hK => ?_)
            refine st1 HS 1 0 #[.int .i64 R.1, .int .i64 R.2.1, .slice B3 R.2.2.1.length b3] rfl rfl rfl rfl rfl ?_
            intro w1 HS
            refine goD hK rfl ?_
            repeat (first | ((with_reducible refine gate_p ?_); refine rp rfl rfl ?_) | ((with_reducible refine gate_t ?_); refine rt rfl rfl hHeld ?_))
            refine run_done ?_
            have n_ := HS.out.sel [1, 0, 2, 3, 4, 5, 6, 7, 8] (by decide)
            simp only [List.filterMap_cons, List.filterMap_nil, List.getElem?_cons_zero, List.getElem?_cons_succ] at n_
            exact ⟨B3, b3, g_z, rfl, ⟨n_⟩⟩
        · skip
          refine run_e rfl (fun K hK => ?_)
          refine bx1 26 #[(.int .i64 0), (.int .i64 0), (.slice none 0 0)] HS ?_
          intro g_z w1 hg_z HS
          refine ge hK ⟨HS.out.c 3 0 (v := .int .i64 (d : Int)) rfl rfl, HS.out.c 3 1 (v := .int .i64 (n : Int)) rfl rfl, HS.out.c 3 2 (v := .slice B p.length b) rfl rfl, HS.out.c 1 0 (v := .int .i64 (d : Int)) rfl rfl, HS.out.c 1 1 (v := .int .i64 (n : Int)) rfl rfl, HS.out.c 1 2 (v := .slice B2 q.length b2) rfl rfl⟩ (fun hHeld => ?_)
          refine run_e rfl (fun K hK => ?_)
          refine gc Try.func119 (specOne (-1) _) rfl rfl ?_
          rintro e_ w1 ⟨rfl, hb⟩
          refine ⟨_, rfl, ?_⟩
          replace HS := sB HS hb
          refine ge hK ⟨HS.out.c 3 0 (v := .int .i64 (d : Int)) rfl rfl, HS.out.c 3 1 (v := .int .i64 (n : Int)) rfl rfl, HS.out.c 3 2 (v := .slice B p.length b) rfl rfl, HS.out.c 1 0 (v := .int .i64 (d : Int)) rfl rfl, HS.out.c 1 1 (v := .int .i64 (n : Int)) rfl rfl, HS.out.c 1 2 (v := .slice B2 q.length b2) rfl rfl⟩ (fun hHeld => ?_)
          refine run_e rfl (fun K hK => ?_)
          refine gc Try.func124 (HA.out B b B2 b2 _ (HS.out.reads 4 rfl) (HS.out.reads 2 rfl)) rfl rfl ?_
          rintro e_ w1 ⟨B3, b3, rfl, hs⟩
          refine ⟨_, rfl, ?_⟩
          replace HS := sN1 HS hs
          refine ge hK ⟨HS.out.c 4 0 (v := .int .i64 (d : Int)) rfl rfl, HS.out.c 4 1 (v := .int .i64 (n : Int)) rfl rfl, HS.out.c 4 2 (v := .slice B p.length b) rfl rfl, HS.out.c 2 0 (v := .int .i64 (d : Int)) rfl rfl, HS.out.c 2 1 (v := .int .i64 (n : Int)) rfl rfl, HS.out.c 2 2 (v := .slice B2 q.length b2) rfl rfl⟩ (fun hHeld => ?_)
          repeat (first | ((with_reducible refine gate_p ?_); refine rp rfl rfl ?_) | ((with_reducible refine gate_t ?_); refine rt rfl rfl hHeld ?_))
          refine run_d rfl (fun K hK => ?_)
          refine st1 HS 1 0 #[.int .i64 R.1, .int .i64 R.2.1, .slice B3 R.2.2.1.length b3] rfl rfl rfl rfl rfl ?_
          intro w1 HS
          refine goD hK rfl ?_
          repeat (first | ((with_reducible refine gate_p ?_); refine rp rfl rfl ?_) | ((with_reducible refine gate_t ?_); refine rt rfl rfl hHeld ?_))
          refine run_done ?_
          have n_ := HS.out.sel [1, 0, 2, 3, 4, 5, 6, 7, 8] (by decide)
          simp only [List.filterMap_cons, List.filterMap_nil, List.getElem?_cons_zero, List.getElem?_cons_succ] at n_
          exact ⟨B3, b3, g_z, rfl, ⟨n_⟩⟩
      clear HS
      rintro a_ w1 ⟨B3, b3, g_z, rfl, HS⟩
      have f1_ := HS.out.c 0 0 (v := .int .i64 R.1) rfl rfl
      have f2_ := HS.out.c 0 1 (v := .int .i64 R.2.1) rfl rfl
      have f3_ := HS.out.c 0 2 (v := .slice B3 R.2.2.1.length b3) rfl rfl
      go_wp2_with (first | ((with_reducible refine gate_store (t := 26) (p := 4) rfl ?_); refine stL HS 6 0 #[.int .i64 R.1, .int .i64 R.2.1, .slice B3 R.2.2.1.length b3] rfl rfl rfl rfl rfl ?_; clear HS f1_ f2_ f3_; intro w1 HS))
      refine bodyPost_ret (results_cell_tmp_row rfl _ _ g_r 26 #[.int .i64 R.1, .int .i64 R.2.1, .slice B3 R.2.2.1.length b3] (0, 0) _ rfl (HS.out.at (i := 6) rfl) Try.underlying26 rfl (by kernel_rfl)) rfl ?_
      exact ⟨B3, b3, rfl, HS.out.sel [1] (by decide)⟩
end Go.Proofs.Ytibjkjhpfmmjoaa.H



