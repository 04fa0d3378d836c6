/- Plain facts and contracts of functions that the law's walk uses. Conditions: those that stand in each statement. -/
import Derived.Test.YtibjkjhpfmmjoaaShG1
import Derived.Test.YtibjkjhpfmmjoaaShG5
import Derived.Test.YtibjkjhpfmmjoaaShG6
import Derived.Test.YtibjkjhpfmmjoaaShG7
import Derived.Test.YtibjkjhpfmmjoaaShG4
import Derived.Laws.BitsLemmas
import Derived.Laws.Bits64
import Derived.Test.YtibjkjhpfmmjoaaShG3
set_option linter.unusedVariables false
set_option linter.unusedSimpArgs false
namespace Go.Proofs.Ytibjkjhpfmmjoaa.M
def resP : Option Ts → Ts × Bool
  | none => ([], false)
  | some y => (y, true)
theorem put_eq {l : Ts} {s : ByteArray} {a : Fr} {k : Nat} (hb : ∀ j, j < k → bef (l.getD j H.zT).1 s = true) (hk : k < l.length) (h1 : bef (l.getD k H.zT).1 s = false) (h2 : (l.getD k H.zT).1 = s) :
    put l s a = (add (l.getD k H.zT).2 a).map fun c => l.take k ++ ((if c.1 = 0 then [] else [(s, c)]) ++ l.drop (k + 1)) := by
  induction l generalizing k with
  | nil => cases hk
  | cons t r ih =>
    cases k with
    | zero =>
      rw [List.getD_cons_zero] at h1 h2 ⊢
      rw [put, if_neg (by rw [h1]; decide), if_pos h2]
      congr 1
      funext c
      by_cases h : c.1 = 0 <;> simp [h]
    | succ k =>
      rw [List.getD_cons_succ] at h1 h2 ⊢
      have h0 := hb 0 (by omega)
      rw [List.getD_cons_zero] at h0
      rw [put, if_pos h0, ih (k := k) (fun j hj => by have := hb (j + 1) (by omega); rwa [List.getD_cons_succ] at this) (by simpa using hk) h1 h2]
      cases add (r.getD k H.zT).2 a <;> rfl
theorem put_ne {l : Ts} {s : ByteArray} {a : Fr} {k : Nat} (hb : ∀ j, j < k → bef (l.getD j H.zT).1 s = true) (hk : k < l.length) (h1 : bef (l.getD k H.zT).1 s = false) (h2 : (l.getD k H.zT).1 ≠ s) :
    put l s a = some (l.take k ++ ((if a.1 = 0 then [] else [(s, a)]) ++ l.drop k)) := by
  induction l generalizing k with
  | nil => cases hk
  | cons t r ih =>
    cases k with
    | zero =>
      rw [List.getD_cons_zero] at h1 h2
      rw [put, if_neg (by rw [h1]; decide), if_neg h2]
      by_cases h : a.1 = 0 <;> simp [h]
    | succ k =>
      rw [List.getD_cons_succ] at h1 h2
      have h0 := hb 0 (by omega)
      rw [List.getD_cons_zero] at h0
      rw [put, if_pos h0, ih (k := k) (fun j hj => by have := hb (j + 1) (by omega); rwa [List.getD_cons_succ] at this) (by simpa using hk) h1 h2]
      rfl
theorem put_end {l : Ts} {s : ByteArray} {a : Fr} (hb : ∀ j, j < l.length → bef (l.getD j H.zT).1 s = true) : put l s a = some (l ++ (if a.1 = 0 then [] else [(s, a)])) := by
  induction l with
  | nil => rfl
  | cons t r ih =>
    have h0 := hb 0 (by simp)
    rw [List.getD_cons_zero] at h0
    rw [put, if_pos h0, ih (fun j hj => by have := hb (j + 1) (by simpa using hj); rwa [List.getD_cons_succ] at this)]
    rfl
end Go.Proofs.Ytibjkjhpfmmjoaa.M
namespace Go.Proofs.Ytibjkjhpfmmjoaa.H
open Go.RowKit Go.Proofs.YtibjkjhpfmmjoaaW.PrintWords Go.Proofs.YtibjkjhpfmmjoaaW.PrintLast Go.Proofs.YtibjkjhpfmmjoaaW.PrintMore Go.Proofs.Ytibjkjhpfmmjoaa.M
attribute [local go_sem] max2_int min2_int max_two min_two max_three min_three max_four min_four
set_option linter.unusedVariables false
set_option linter.unusedSimpArgs false
set_option maxRecDepth 100000
theorem C_takeN {W : World} {A : Option Addr} {l : Ts} {k : Nat} (h : KT.C W A l.length l) (hk : k ≤ l.length) : KT.C W A k (l.take k) := by
  have := Kd.C_take (m := k) h hk
  rwa [show (l.take k).length = k by rw [List.length_take]; omega] at this
theorem C_zero {W : World} {A : Option Addr} : KT.C W A 0 ([] : Ts) := ⟨rfl, by omega, fun h => absurd h (Nat.lt_irrefl 0)⟩
theorem C_dropN1 {W : World} {A : Option Addr} {l : Ts} {k c : Nat} (h : KT.C W A l.length l) (hk : k ≤ l.length) (hc : l.length ≤ c) (hck : c = k) : KT.C W A (l.length - k) (l.drop k) := by
  have := Kd.C_drop (m := k) (c := c) h hk hc
  rwa [List.length_drop, if_pos hck] at this
theorem C_dropN2 {W : World} {A : Option Addr} {l : Ts} {k c : Nat} (h : KT.C W A l.length l) (hk : k ≤ l.length) (hc : l.length ≤ c) (hck : ¬ c = k) : KT.C W (A.map (·.add (k * 3))) (l.length - k) (l.drop k) := by
  have := Kd.C_drop (m := k) (c := c) h hk hc
  rwa [List.length_drop, if_neg hck] at this
theorem C_dropN3 {W : World} {A : Option Addr} {l : Ts} {k c : Nat} (h : KT.C W A l.length l) (hk : k ≤ l.length) (hc : l.length ≤ c) : KT.C W (if c = k then A else A.map (·.add (k * 3))) (l.length - k) (l.drop k) := by
  have := Kd.C_drop (m := k) (c := c) h hk hc
  rwa [List.length_drop] at this
set_option maxHeartbeats 16000000 in
theorem specPut (A : Option Addr) (c : Nat) (l : Ts) (s : ByteArray) (x y : Int) (w : World) (hr : KT.C w A l.length l) (hc : l.length ≤ c) (hb : bnd l = true) (hsm : ∀ t ∈ l, small t.2) (hs : s.size ≤ 1048576) (ha : small (x, y)) :
    Calls Try.prog 110 #[.slice A l.length c, .string s, .agg #[.int .i64 x, .int .i64 y]] w fun e w' => ∃ B b, e = .returned (.tuple #[.slice B (resP (put l s (x, y))).1.length b, .bool (resP (put l s (x, y))).2]) ∧ Sep w w' [rowT B b (resP (put l s (x, y))).1] := by
  have HR := Aside0.mk hr
  have hll := (bnd_iff.1 hb).1
  have HZS := Aside0.mk (fun j => bnd_get hb j)
  have HSM := Aside0.mk (fun k (h : k < l.length) => (by rw [getD_lt l zT k h]; exact hsm _ (List.getElem_mem h) : small (l.getD k zT).2))
  have HA := Aside0.mk ha
  have HS := Aside0.mk (Sep.refl w)
  clear hr hb hsm ha
  go_enter Try.func110, Try.ntmps110
  go_wp2_with (first | ((with_reducible refine gate_dst (N := 5) rfl ?_); refine bxL 34 #[.int .i64 x, .int .i64 y] HS ?_; clear HS; intro g_a w1 hg_a HS))
  go_loopw [8] (fun v w' => ∃ k : Nat, k ≤ l.length ∧ v = .int .i64 (k : Int) ∧ Aside0 (∀ j, j < k → bef (l.getD j zT).1 s = true) ∧ Aside0 (Mod w w' No [bx g_a 34 #[.int .i64 x, .int .i64 y]])) (fun v _ => l.length - (intOf v).toNat)
  case atStart => exact ⟨0, by omega, rfl, ⟨fun _ h => by omega⟩, HS⟩
  case round =>
    clear HS
    obtain ⟨k, hk, rfl, HB, HS⟩ := hrel
    have HKT := Aside0.mk (show (l.take k).length = k by rw [List.length_take]; omega)
    have hy1 : ∀ y : Ts, Aside0 (y = [] ++ l.take k) → y.length ≤ 1048576 := fun y h => by rw [h.out, List.nil_append, HKT.out]; omega
    have hy2 : ∀ (y z : Ts) {p : Tm}, Aside0 (y = [] ++ l.take k) → Aside0 (z = y ++ [p]) → z.length ≤ 1048577 := fun y z p h h2 => by rw [h2.out, List.length_append]; have := hy1 y h; simp; omega
    by_cases hlt : k < l.length
    · have HG := Aside0.mk (fun b e => put_eq HB.out hlt (a := (x, y)) b e)
      have HN := Aside0.mk (fun b e => put_ne HB.out hlt (a := (x, y)) b e)
      have hsz := HZS.out k
      have hsm := HSM.out k hlt
      obtain ⟨ad_A, ea_, h0_, h1_, h2_⟩ := tm_at HR.out k (hlt)
      cases ea_
      obtain ⟨t, ht_⟩ : ∃ t_, t_ = l.getD k zT := ⟨_, rfl⟩
      rw [← ht_] at h0_ h1_ h2_
      have Et := Aside0.mk ht_; have H0t := Aside0.mk h0_; have H1t := Aside0.mk h1_; have H2t := Aside0.mk h2_
      clear ht_ h0_ h1_ h2_
      rw [← Et.out] at hsz hsm HG HN
      cases hbf : bef t.1 s with
      | true =>
        have f1_ := HS.out.old H0t.out
        go_wp2_with (first | (go_at_call 109; refine (specBefore t.1 s _ (by omega) (by omega)).mono ?_; rintro e_ w1 ⟨rfl, hb⟩; replace HS := sB HS hb; clear hb f1_))
        go_roundw
        case rel => exact ⟨k + 1, by omega, by go_num, ⟨round_next HB.out (by rw [← Et.out]; exact hbf)⟩, HS⟩
        case measure => simp [intOf]; omega
      | false =>
        by_cases he : t.1 = s
        · have hse : (t.1.toList == s.toList) = true := by rw [he]; simp
          obtain ⟨o, ho⟩ : ∃ o, o = add t.2 (x, y) := ⟨_, rfl⟩
          have HP := Aside0.mk (fun W => ho ▸ specPlus t.2.1 t.2.2 x y W hsm HA.out)
          have HPut := Aside0.mk (HG.out hbf he)
          rw [← ho] at HPut
          clear ho he
          cases o with
          | none =>
            have f1_ := HS.out.old H0t.out
            go_wp2_with (first | (go_at_call 109; refine (specBefore t.1 s _ (by omega) (by omega)).mono ?_; rintro e_ w1 ⟨rfl, hb⟩; replace HS := sB HS hb; clear hb f1_) | ((with_reducible refine gate_dst (N := 27) rfl ?_); refine wpList_stp (fun K hK => ?_); refine stp_lit (KT) rfl 38 (by rfl) HS (xs := ([] : Ts)) (inner := []) (by first | (go_simp; done) | (go_simp; rfl)) (fun W base ok => Reps.none _ _) (by simp) ?_; clear HS; intro A_o c_o w1 HS; refine hK _ _ ?_; clear hK K) | ((with_reducible refine gate_builtin (b := .append) (xs := #[.tmp 27, .tmp 30]) rfl ?_); at_builtin; refine wpList_stp (fun K hK => ?_); refine stp_rows KT rfl (fun _ _ _ _ _ h => h) (by rfl) HS 0 (xs := []) rfl (.tmp 27) (.tmp 30) 24 (.agg #[(.string ⟨#[]⟩), (.int .i64 0), (.int .i64 0)]) 32 rfl Try.underlying24 infoTerm (by kernel_rfl) (l.take k) rfl rfl (C_takeN (k := k) (HS.out.oldC HR.out) (by omega)) (by show (0 + k) * 32 ≤ _; omega) ?_; clear HS; intro A_y1 c_y1 y1 w1 Ny1 HS; simp only [List.set_cons_zero, List.set_cons_succ] at HS; refine hK _ _ ?_; clear hK K; have f1_ := HS.out.old H0t.out))
            clear f1_
            replace HS := sD HS
            apply region_told ((fun (A0_ : Nat → Act) (a' : Act) (w' : World) => ∃ (g_b : Nat), a' = A0_ g_b ∧ Aside0 (Mod w w' No [bx g_b 34 #[.int .i64 0, .int .i64 0], rw' (KT) rfl 38 (.slice A_y1 (y1).length c_y1) (y1), bx g_a 34 #[.int .i64 x, .int .i64 y]])) _)
            case h1 =>
              refine ps (.p 0 (.p 1 (.p 2 (.p 3 (.t 4 (.t 5 (.two 6 10 (.p 7 (.p 8 (.p 9 (.e 10 (.d 11 (.p 12 .done)))))) (.e 6 (.p 7 (.p 8 (.p 9 (.d 11 (.p 12 .done))))))))))))) (fun w' => w'.cell? ⟨(ad_A.add (k * 3)).block, (ad_A.add (k * 3)).off + 1, none⟩ = some (.int .i64 t.2.1) ∧ w'.cell? ⟨(ad_A.add (k * 3)).block, (ad_A.add (k * 3)).off + 1 + 1, none⟩ = some (.int .i64 t.2.2) ∧ w'.cell? ⟨g_a, 0, none⟩ = some (.int .i64 x) ∧ w'.cell? ⟨g_a, 1, none⟩ = some (.int .i64 y)) [11] ⟨HS.out.old H1t.out, c2 (HS.out.old H2t.out), HS.out.c 1 0 (v := .int .i64 x) rfl rfl, HS.out.c 1 1 (v := .int .i64 y) rfl rfl⟩ (fun hHeld => ?_)
              repeat (first | ((with_reducible refine gate_p ?_); refine rp rfl rfl ?_) | ((with_reducible refine gate_t ?_); refine rt rfl rfl hHeld ?_))
              refine run_two ?_ ?_
              · skip
                refine run_e rfl (fun K hK => ?_)
                refine gc Try.func122 (HP.out _) rfl rfl ?_
                rintro e_ w1 ⟨rfl, hb⟩
                refine ⟨_, rfl, ?_⟩
                replace HS := sB HS hb
                refine ge hK ⟨HS.out.old H1t.out, c2 (HS.out.old H2t.out), HS.out.c 1 0 (v := .int .i64 x) rfl rfl, HS.out.c 1 1 (v := .int .i64 y) rfl rfl⟩ (fun hHeld => ?_)
                repeat (first | ((with_reducible refine gate_p ?_); refine rp rfl rfl ?_) | ((with_reducible refine gate_t ?_); refine rt rfl rfl hHeld ?_))
                refine run_e rfl (fun K hK => ?_)
                refine bx1 34 #[(.int .i64 0), (.int .i64 0)] HS ?_
                intro g_b w1 hg_b HS
                refine ge hK ⟨HS.out.old H1t.out, c2 (HS.out.old H2t.out), HS.out.c 2 0 (v := .int .i64 x) rfl rfl, HS.out.c 2 1 (v := .int .i64 y) rfl rfl⟩ (fun hHeld => ?_)
                refine run_d rfl (fun K hK => ?_)
                refine st1 HS 0 0 #[.int .i64 0, .int .i64 0] rfl rfl rfl rfl rfl ?_
                intro w1 HS
                refine goD hK rfl ?_
                repeat (first | ((with_reducible refine gate_p ?_); refine rp rfl rfl ?_) | ((with_reducible refine gate_t ?_); refine rt rfl rfl hHeld ?_))
                refine run_done ?_
                exact ⟨g_b, rfl, HS⟩
              · skip
                refine run_e rfl (fun K hK => ?_)
                refine bx1 34 #[(.int .i64 0), (.int .i64 0)] HS ?_
                intro g_b w1 hg_b HS
                refine ge hK ⟨HS.out.old H1t.out, c2 (HS.out.old H2t.out), HS.out.c 2 0 (v := .int .i64 x) rfl rfl, HS.out.c 2 1 (v := .int .i64 y) rfl rfl⟩ (fun hHeld => ?_)
                refine run_e rfl (fun K hK => ?_)
                refine gc Try.func122 (HP.out _) rfl rfl ?_
                rintro e_ w1 ⟨rfl, hb⟩
                refine ⟨_, rfl, ?_⟩
                replace HS := sB HS hb
                refine ge hK ⟨HS.out.old H1t.out, c2 (HS.out.old H2t.out), HS.out.c 2 0 (v := .int .i64 x) rfl rfl, HS.out.c 2 1 (v := .int .i64 y) rfl rfl⟩ (fun hHeld => ?_)
                repeat (first | ((with_reducible refine gate_p ?_); refine rp rfl rfl ?_) | ((with_reducible refine gate_t ?_); refine rt rfl rfl hHeld ?_))
                refine run_d rfl (fun K hK => ?_)
                refine st1 HS 0 0 #[.int .i64 0, .int .i64 0] rfl rfl rfl rfl rfl ?_
                intro w1 HS
                refine goD hK rfl ?_
                repeat (first | ((with_reducible refine gate_p ?_); refine rp rfl rfl ?_) | ((with_reducible refine gate_t ?_); refine rt rfl rfl hHeld ?_))
                refine run_done ?_
                have n_ := HS.out.sel [0, 1, 2] (by decide)
                simp only [List.filterMap_cons, List.filterMap_nil, List.getElem?_cons_zero, List.getElem?_cons_succ] at n_
                exact ⟨g_b, rfl, ⟨n_⟩⟩
            clear HS
            rintro a_ w1 ⟨g_b, rfl, HS⟩
            go_wp2
            go_ret2
            have e_ : resP (put l s (x, y)) = ([], false) := by rw [HPut.out]; rfl
            rw [e_]
            exact ⟨none, 0, rfl, nilS (HS.out.sel [] (by decide))⟩
          | some v =>
            by_cases hz : v.1 = 0
            · skip
              have hzb : (v.1 == 0) = true := by rw [hz]; rfl
              have HZ := Aside0.mk hz
              clear hz
              have f1_ := HS.out.old H0t.out
              go_wp2_with (first | (go_at_call 109; refine (specBefore t.1 s _ (by omega) (by omega)).mono ?_; rintro e_ w1 ⟨rfl, hb⟩; replace HS := sB HS hb; clear hb f1_) | ((with_reducible refine gate_dst (N := 27) rfl ?_); refine wpList_stp (fun K hK => ?_); refine stp_lit (KT) rfl 38 (by rfl) HS (xs := ([] : Ts)) (inner := []) (by first | (go_simp; done) | (go_simp; rfl)) (fun W base ok => Reps.none _ _) (by simp) ?_; clear HS; intro A_o c_o w1 HS; refine hK _ _ ?_; clear hK K) | ((with_reducible refine gate_builtin (b := .append) (xs := #[.tmp 27, .tmp 30]) rfl ?_); at_builtin; refine wpList_stp (fun K hK => ?_); refine stp_rows KT rfl (fun _ _ _ _ _ h => h) (by rfl) HS 0 (xs := []) rfl (.tmp 27) (.tmp 30) 24 (.agg #[(.string ⟨#[]⟩), (.int .i64 0), (.int .i64 0)]) 32 rfl Try.underlying24 infoTerm (by kernel_rfl) (l.take k) rfl rfl (C_takeN (k := k) (HS.out.oldC HR.out) (by omega)) (by show (0 + k) * 32 ≤ _; omega) ?_; clear HS; intro A_y1 c_y1 y1 w1 Ny1 HS; simp only [List.set_cons_zero, List.set_cons_succ] at HS; refine hK _ _ ?_; clear hK K; have f1_ := HS.out.old H0t.out))
              clear f1_
              replace HS := sD HS
              apply region_told ((fun (A0_ : Nat → Act) (a' : Act) (w' : World) => ∃ (g_b : Nat), a' = A0_ g_b ∧ Aside0 (Mod w w' No [bx g_b 34 #[.int .i64 v.1, .int .i64 v.2], rw' (KT) rfl 38 (.slice A_y1 (y1).length c_y1) (y1), bx g_a 34 #[.int .i64 x, .int .i64 y]])) _)
              case h1 =>
                refine ps (.p 0 (.p 1 (.p 2 (.p 3 (.t 4 (.t 5 (.two 6 10 (.p 7 (.p 8 (.p 9 (.e 10 (.d 11 (.p 12 .done)))))) (.e 6 (.p 7 (.p 8 (.p 9 (.d 11 (.p 12 .done))))))))))))) (fun w' => w'.cell? ⟨(ad_A.add (k * 3)).block, (ad_A.add (k * 3)).off + 1, none⟩ = some (.int .i64 t.2.1) ∧ w'.cell? ⟨(ad_A.add (k * 3)).block, (ad_A.add (k * 3)).off + 1 + 1, none⟩ = some (.int .i64 t.2.2) ∧ w'.cell? ⟨g_a, 0, none⟩ = some (.int .i64 x) ∧ w'.cell? ⟨g_a, 1, none⟩ = some (.int .i64 y)) [11] ⟨HS.out.old H1t.out, c2 (HS.out.old H2t.out), HS.out.c 1 0 (v := .int .i64 x) rfl rfl, HS.out.c 1 1 (v := .int .i64 y) rfl rfl⟩ (fun hHeld => ?_)
                repeat (first | ((with_reducible refine gate_p ?_); refine rp rfl rfl ?_) | ((with_reducible refine gate_t ?_); refine rt rfl rfl hHeld ?_))
                refine run_two ?_ ?_
                · skip
                  refine run_e rfl (fun K hK => ?_)
                  refine gc Try.func122 (HP.out _) rfl rfl ?_
                  rintro e_ w1 ⟨rfl, hb⟩
                  refine ⟨_, rfl, ?_⟩
                  replace HS := sB HS hb
                  refine ge hK ⟨HS.out.old H1t.out, c2 (HS.out.old H2t.out), HS.out.c 1 0 (v := .int .i64 x) rfl rfl, HS.out.c 1 1 (v := .int .i64 y) rfl rfl⟩ (fun hHeld => ?_)
                  repeat (first | ((with_reducible refine gate_p ?_); refine rp rfl rfl ?_) | ((with_reducible refine gate_t ?_); refine rt rfl rfl hHeld ?_))
                  refine run_e rfl (fun K hK => ?_)
                  refine bx1 34 #[(.int .i64 0), (.int .i64 0)] HS ?_
                  intro g_b w1 hg_b HS
                  refine ge hK ⟨HS.out.old H1t.out, c2 (HS.out.old H2t.out), HS.out.c 2 0 (v := .int .i64 x) rfl rfl, HS.out.c 2 1 (v := .int .i64 y) rfl rfl⟩ (fun hHeld => ?_)
                  refine run_d rfl (fun K hK => ?_)
                  refine st1 HS 0 0 #[.int .i64 v.1, .int .i64 v.2] rfl rfl rfl rfl rfl ?_
                  intro w1 HS
                  refine goD hK rfl ?_
                  repeat (first | ((with_reducible refine gate_p ?_); refine rp rfl rfl ?_) | ((with_reducible refine gate_t ?_); refine rt rfl rfl hHeld ?_))
                  refine run_done ?_
                  exact ⟨g_b, rfl, HS⟩
                · skip
                  refine run_e rfl (fun K hK => ?_)
                  refine bx1 34 #[(.int .i64 0), (.int .i64 0)] HS ?_
                  intro g_b w1 hg_b HS
                  refine ge hK ⟨HS.out.old H1t.out, c2 (HS.out.old H2t.out), HS.out.c 2 0 (v := .int .i64 x) rfl rfl, HS.out.c 2 1 (v := .int .i64 y) rfl rfl⟩ (fun hHeld => ?_)
                  refine run_e rfl (fun K hK => ?_)
                  refine gc Try.func122 (HP.out _) rfl rfl ?_
                  rintro e_ w1 ⟨rfl, hb⟩
                  refine ⟨_, rfl, ?_⟩
                  replace HS := sB HS hb
                  refine ge hK ⟨HS.out.old H1t.out, c2 (HS.out.old H2t.out), HS.out.c 2 0 (v := .int .i64 x) rfl rfl, HS.out.c 2 1 (v := .int .i64 y) rfl rfl⟩ (fun hHeld => ?_)
                  repeat (first | ((with_reducible refine gate_p ?_); refine rp rfl rfl ?_) | ((with_reducible refine gate_t ?_); refine rt rfl rfl hHeld ?_))
                  refine run_d rfl (fun K hK => ?_)
                  refine st1 HS 0 0 #[.int .i64 v.1, .int .i64 v.2] rfl rfl rfl rfl rfl ?_
                  intro w1 HS
                  refine goD hK rfl ?_
                  repeat (first | ((with_reducible refine gate_p ?_); refine rp rfl rfl ?_) | ((with_reducible refine gate_t ?_); refine rt rfl rfl hHeld ?_))
                  refine run_done ?_
                  have n_ := HS.out.sel [0, 1, 2] (by decide)
                  simp only [List.filterMap_cons, List.filterMap_nil, List.getElem?_cons_zero, List.getElem?_cons_succ] at n_
                  exact ⟨g_b, rfl, ⟨n_⟩⟩
              clear HS
              rintro a_ w1 ⟨g_b, rfl, HS⟩
              have f1_ := HS.out.c 0 0 (v := .int .i64 v.1) rfl rfl
              have f2_ := HS.out.c 0 1 (v := .int .i64 v.2) rfl rfl
              go_wp2_with (first | ((with_reducible refine gate_store (t := 34) (p := 5) rfl ?_); refine stL HS 2 0 #[.int .i64 v.1, .int .i64 v.2] rfl rfl rfl rfl rfl ?_; clear HS f1_ f2_; intro w1 HS; have f1_ := HS.out.c 2 0 (v := .int .i64 v.1) rfl rfl; have f2_ := HS.out.c 2 1 (v := .int .i64 v.2) rfl rfl) | (go_at_call 108; refine (specZero _ _ _).mono ?_; rintro e_ w1 ⟨rfl, hb⟩; replace HS := sB HS hb; clear hb f1_ f2_) | ((with_reducible refine gate_builtin (b := .append) (xs := #[.tmp 69, .tmp 72]) rfl ?_); at_builtin; refine wpList_stp (fun K hK => ?_); refine stp_rows KT rfl (fun _ _ _ _ _ h => h) (by rfl) HS 1 rfl (.tmp 69) (.tmp 72) 24 (.agg #[(.string ⟨#[]⟩), (.int .i64 0), (.int .i64 0)]) 32 rfl Try.underlying24 infoTerm (by kernel_rfl) (l.drop (k + 1)) rfl rfl (by first | exact C_dropN1 (k := k + 1) (c := c) (HS.out.oldC HR.out) (by omega) hc (by omega) | exact C_dropN2 (k := k + 1) (c := c) (HS.out.oldC HR.out) (by omega) hc (by omega) | exact C_dropN3 (k := k + 1) (c := c) (HS.out.oldC HR.out) (by omega) hc) (by have h_ := hy1 _ Ny1; omega) ?_; clear HS; intro A_y3 c_y3 y3 w1 Ny3 HS; simp only [List.set_cons_zero, List.set_cons_succ] at HS; refine hK _ _ ?_; clear hK K))
              all_goals (go_ret2; have e_ : resP (put l s (x, y)) = (y3, true) := (by rw [HPut.out]; simp [Ny3.out, Ny1.out, HZ.out, resP]); rw [e_]; exact ⟨A_y3, c_y3, rfl, HS.out.sel [1] (by decide)⟩)
            · skip
              have hzb : (v.1 == 0) = false := by simpa using hz
              have HZ := Aside0.mk hz
              clear hz
              have f1_ := HS.out.old H0t.out
              go_wp2_with (first | (go_at_call 109; refine (specBefore t.1 s _ (by omega) (by omega)).mono ?_; rintro e_ w1 ⟨rfl, hb⟩; replace HS := sB HS hb; clear hb f1_) | ((with_reducible refine gate_dst (N := 27) rfl ?_); refine wpList_stp (fun K hK => ?_); refine stp_lit (KT) rfl 38 (by rfl) HS (xs := ([] : Ts)) (inner := []) (by first | (go_simp; done) | (go_simp; rfl)) (fun W base ok => Reps.none _ _) (by simp) ?_; clear HS; intro A_o c_o w1 HS; refine hK _ _ ?_; clear hK K) | ((with_reducible refine gate_builtin (b := .append) (xs := #[.tmp 27, .tmp 30]) rfl ?_); at_builtin; refine wpList_stp (fun K hK => ?_); refine stp_rows KT rfl (fun _ _ _ _ _ h => h) (by rfl) HS 0 (xs := []) rfl (.tmp 27) (.tmp 30) 24 (.agg #[(.string ⟨#[]⟩), (.int .i64 0), (.int .i64 0)]) 32 rfl Try.underlying24 infoTerm (by kernel_rfl) (l.take k) rfl rfl (C_takeN (k := k) (HS.out.oldC HR.out) (by omega)) (by show (0 + k) * 32 ≤ _; omega) ?_; clear HS; intro A_y1 c_y1 y1 w1 Ny1 HS; simp only [List.set_cons_zero, List.set_cons_succ] at HS; refine hK _ _ ?_; clear hK K; have f1_ := HS.out.old H0t.out))
              clear f1_
              replace HS := sD HS
              apply region_told ((fun (A0_ : Nat → Act) (a' : Act) (w' : World) => ∃ (g_b : Nat), a' = A0_ g_b ∧ Aside0 (Mod w w' No [bx g_b 34 #[.int .i64 v.1, .int .i64 v.2], rw' (KT) rfl 38 (.slice A_y1 (y1).length c_y1) (y1), bx g_a 34 #[.int .i64 x, .int .i64 y]])) _)
              case h1 =>
                refine ps (.p 0 (.p 1 (.p 2 (.p 3 (.t 4 (.t 5 (.two 6 10 (.p 7 (.p 8 (.p 9 (.e 10 (.d 11 (.p 12 .done)))))) (.e 6 (.p 7 (.p 8 (.p 9 (.d 11 (.p 12 .done))))))))))))) (fun w' => w'.cell? ⟨(ad_A.add (k * 3)).block, (ad_A.add (k * 3)).off + 1, none⟩ = some (.int .i64 t.2.1) ∧ w'.cell? ⟨(ad_A.add (k * 3)).block, (ad_A.add (k * 3)).off + 1 + 1, none⟩ = some (.int .i64 t.2.2) ∧ w'.cell? ⟨g_a, 0, none⟩ = some (.int .i64 x) ∧ w'.cell? ⟨g_a, 1, none⟩ = some (.int .i64 y)) [11] ⟨HS.out.old H1t.out, c2 (HS.out.old H2t.out), HS.out.c 1 0 (v := .int .i64 x) rfl rfl, HS.out.c 1 1 (v := .int .i64 y) rfl rfl⟩ (fun hHeld => ?_)
                repeat (first | ((with_reducible refine gate_p ?_); refine rp rfl rfl ?_) | ((with_reducible refine gate_t ?_); refine rt rfl rfl hHeld ?_))
                refine run_two ?_ ?_
                · skip
                  refine run_e rfl (fun K hK => ?_)
                  refine gc Try.func122 (HP.out _) rfl rfl ?_
                  rintro e_ w1 ⟨rfl, hb⟩
                  refine ⟨_, rfl, ?_⟩
                  replace HS := sB HS hb
                  refine ge hK ⟨HS.out.old H1t.out, c2 (HS.out.old H2t.out), HS.out.c 1 0 (v := .int .i64 x) rfl rfl, HS.out.c 1 1 (v := .int .i64 y) rfl rfl⟩ (fun hHeld => ?_)
                  repeat (first | ((with_reducible refine gate_p ?_); refine rp rfl rfl ?_) | ((with_reducible refine gate_t ?_); refine rt rfl rfl hHeld ?_))
                  refine run_e rfl (fun K hK => ?_)
                  refine bx1 34 #[(.int .i64 0), (.int .i64 0)] HS ?_
                  intro g_b w1 hg_b HS
                  refine ge hK ⟨HS.out.old H1t.out, c2 (HS.out.old H2t.out), HS.out.c 2 0 (v := .int .i64 x) rfl rfl, HS.out.c 2 1 (v := .int .i64 y) rfl rfl⟩ (fun hHeld => ?_)
                  refine run_d rfl (fun K hK => ?_)
                  refine st1 HS 0 0 #[.int .i64 v.1, .int .i64 v.2] rfl rfl rfl rfl rfl ?_
                  intro w1 HS
                  refine goD hK rfl ?_
                  repeat (first | ((with_reducible refine gate_p ?_); refine rp rfl rfl ?_) | ((with_reducible refine gate_t ?_); refine rt rfl rfl hHeld ?_))
                  refine run_done ?_
                  exact ⟨g_b, rfl, HS⟩
                · skip
                  refine run_e rfl (fun K hK => ?_)
                  refine bx1 34 #[(.int .i64 0), (.int .i64 0)] HS ?_
                  intro g_b w1 hg_b HS
                  refine ge hK ⟨HS.out.old H1t.out, c2 (HS.out.old H2t.out), HS.out.c 2 0 (v := .int .i64 x) rfl rfl, HS.out.c 2 1 (v := .int .i64 y) rfl rfl⟩ (fun hHeld => ?_)
                  refine run_e rfl (fun K hK => ?_)
                  refine gc Try.func122 (HP.out _) rfl rfl ?_
                  rintro e_ w1 ⟨rfl, hb⟩
                  refine ⟨_, rfl, ?_⟩
                  replace HS := sB HS hb
                  refine ge hK ⟨HS.out.old H1t.out, c2 (HS.out.old H2t.out), HS.out.c 2 0 (v := .int .i64 x) rfl rfl, HS.out.c 2 1 (v := .int .i64 y) rfl rfl⟩ (fun hHeld => ?_)
                  repeat (first | ((with_reducible refine gate_p ?_); refine rp rfl rfl ?_) | ((with_reducible refine gate_t ?_); refine rt rfl rfl hHeld ?_))
                  refine run_d rfl (fun K hK => ?_)
                  refine st1 HS 0 0 #[.int .i64 v.1, .int .i64 v.2] rfl rfl rfl rfl rfl ?_
                  intro w1 HS
                  refine goD hK rfl ?_
                  repeat (first | ((with_reducible refine gate_p ?_); refine rp rfl rfl ?_) | ((with_reducible refine gate_t ?_); refine rt rfl rfl hHeld ?_))
                  refine run_done ?_
                  have n_ := HS.out.sel [0, 1, 2] (by decide)
                  simp only [List.filterMap_cons, List.filterMap_nil, List.getElem?_cons_zero, List.getElem?_cons_succ] at n_
                  exact ⟨g_b, rfl, ⟨n_⟩⟩
              clear HS
              rintro a_ w1 ⟨g_b, rfl, HS⟩
              have f1_ := HS.out.c 0 0 (v := .int .i64 v.1) rfl rfl
              have f2_ := HS.out.c 0 1 (v := .int .i64 v.2) rfl rfl
              go_wp2_with (first | ((with_reducible refine gate_store (t := 34) (p := 5) rfl ?_); refine stL HS 2 0 #[.int .i64 v.1, .int .i64 v.2] rfl rfl rfl rfl rfl ?_; clear HS f1_ f2_; intro w1 HS; have f1_ := HS.out.c 2 0 (v := .int .i64 v.1) rfl rfl; have f2_ := HS.out.c 2 1 (v := .int .i64 v.2) rfl rfl) | (go_at_call 108; refine (specZero _ _ _).mono ?_; rintro e_ w1 ⟨rfl, hb⟩; replace HS := sB HS hb; clear hb f1_ f2_; have f1_ := HS.out.c 2 0 (v := .int .i64 v.1) rfl rfl; have f2_ := HS.out.c 2 1 (v := .int .i64 v.2) rfl rfl) | ((with_reducible refine gate_builtin (b := .append) (xs := #[.tmp 63, .tmp 67]) rfl ?_); at_builtin; refine wpList_stp (fun K hK => ?_); refine stp_app (KT) rfl (by rfl) HS 1 rfl (.tmp 63) (.tmp 67) 24 38 (.agg #[(.string ⟨#[]⟩), (.int .i64 0), (.int .i64 0)]) 32 rfl Try.underlying24 infoTerm (by kernel_rfl) (((s, v.1, v.2) : Tm)) [.string s, .int .i64 v.1, .int .i64 v.2] rfl (by first | rfl | (show Value.slice (some ⟨_, 0, none⟩) 1 1 = _; simp)) (KT_M (s, v.1, v.2)) (by have h_ := hy1 _ Ny1; omega) ?_; clear HS f1_ f2_; intro A_y2 c_y2 y2 w1 Ny2 HS; simp only [List.set_cons_zero, List.set_cons_succ] at HS; refine hK _ _ ?_; clear hK K) | ((with_reducible refine gate_builtin (b := .append) (xs := #[.tmp 69, .tmp 72]) rfl ?_); at_builtin; refine wpList_stp (fun K hK => ?_); refine stp_rows KT rfl (fun _ _ _ _ _ h => h) (by rfl) HS 1 rfl (.tmp 69) (.tmp 72) 24 (.agg #[(.string ⟨#[]⟩), (.int .i64 0), (.int .i64 0)]) 32 rfl Try.underlying24 infoTerm (by kernel_rfl) (l.drop (k + 1)) rfl rfl (by first | exact C_dropN1 (k := k + 1) (c := c) (HS.out.oldC HR.out) (by omega) hc (by omega) | exact C_dropN2 (k := k + 1) (c := c) (HS.out.oldC HR.out) (by omega) hc (by omega) | exact C_dropN3 (k := k + 1) (c := c) (HS.out.oldC HR.out) (by omega) hc) (by have h_ := hy2 _ _ Ny1 Ny2; omega) ?_; clear HS; intro A_y3 c_y3 y3 w1 Ny3 HS; simp only [List.set_cons_zero, List.set_cons_succ] at HS; refine hK _ _ ?_; clear hK K))
              all_goals (go_ret2; have e_ : resP (put l s (x, y)) = (y3, true) := (by rw [HPut.out]; simp [Ny3.out, Ny2.out, Ny1.out, HZ.out, resP]); rw [e_]; exact ⟨A_y3, c_y3, rfl, HS.out.sel [1] (by decide)⟩)
        · have hse : (t.1.toList == s.toList) = false := by rw [str_eq]; exact decide_eq_false he
          have HPut := Aside0.mk (HN.out hbf he)
          by_cases hz : x = 0
          · skip
            have hzb : (x == 0) = true := by rw [hz]; rfl
            have HZ := Aside0.mk hz
            clear hz
            have f1_ := HS.out.old H0t.out
            go_wp2_with (first | (go_at_call 109; refine (specBefore t.1 s _ (by omega) (by omega)).mono ?_; rintro e_ w1 ⟨rfl, hb⟩; replace HS := sB HS hb; clear hb f1_) | ((with_reducible refine gate_dst (N := 27) rfl ?_); refine wpList_stp (fun K hK => ?_); refine stp_lit (KT) rfl 38 (by rfl) HS (xs := ([] : Ts)) (inner := []) (by first | (go_simp; done) | (go_simp; rfl)) (fun W base ok => Reps.none _ _) (by simp) ?_; clear HS; intro A_o c_o w1 HS; refine hK _ _ ?_; clear hK K) | ((with_reducible refine gate_builtin (b := .append) (xs := #[.tmp 27, .tmp 30]) rfl ?_); at_builtin; refine wpList_stp (fun K hK => ?_); refine stp_rows KT rfl (fun _ _ _ _ _ h => h) (by rfl) HS 0 (xs := []) rfl (.tmp 27) (.tmp 30) 24 (.agg #[(.string ⟨#[]⟩), (.int .i64 0), (.int .i64 0)]) 32 rfl Try.underlying24 infoTerm (by kernel_rfl) (l.take k) rfl rfl (C_takeN (k := k) (HS.out.oldC HR.out) (by omega)) (by show (0 + k) * 32 ≤ _; omega) ?_; clear HS; intro A_y1 c_y1 y1 w1 Ny1 HS; simp only [List.set_cons_zero, List.set_cons_succ] at HS; refine hK _ _ ?_; clear hK K; have f1_ := HS.out.old H0t.out; have f2_ := HS.out.c 1 0 (v := .int .i64 x) rfl rfl; have f3_ := HS.out.c 1 1 (v := .int .i64 y) rfl rfl) | (go_at_call 108; refine (specZero _ _ _).mono ?_; rintro e_ w1 ⟨rfl, hb⟩; replace HS := sB HS hb; clear hb f1_ f2_ f3_) | ((with_reducible refine gate_builtin (b := .append) (xs := #[.tmp 69, .tmp 72]) rfl ?_); at_builtin; refine wpList_stp (fun K hK => ?_); refine stp_rows KT rfl (fun _ _ _ _ _ h => h) (by rfl) HS 0 rfl (.tmp 69) (.tmp 72) 24 (.agg #[(.string ⟨#[]⟩), (.int .i64 0), (.int .i64 0)]) 32 rfl Try.underlying24 infoTerm (by kernel_rfl) (l.drop (k)) rfl rfl (by first | exact C_dropN1 (k := k) (c := c) (HS.out.oldC HR.out) (by omega) hc (by omega) | exact C_dropN2 (k := k) (c := c) (HS.out.oldC HR.out) (by omega) hc (by omega) | exact C_dropN3 (k := k) (c := c) (HS.out.oldC HR.out) (by omega) hc) (by have h_ := hy1 _ Ny1; omega) ?_; clear HS; intro A_y3 c_y3 y3 w1 Ny3 HS; simp only [List.set_cons_zero, List.set_cons_succ] at HS; refine hK _ _ ?_; clear hK K))
            all_goals (go_ret2; have e_ : resP (put l s (x, y)) = (y3, true) := (by rw [HPut.out]; simp [Ny3.out, Ny1.out, HZ.out, resP]); rw [e_]; exact ⟨A_y3, c_y3, rfl, HS.out.sel [0] (by decide)⟩)
          · skip
            have hzb : (x == 0) = false := by simpa using hz
            have HZ := Aside0.mk hz
            clear hz
            have f1_ := HS.out.old H0t.out
            go_wp2_with (first | (go_at_call 109; refine (specBefore t.1 s _ (by omega) (by omega)).mono ?_; rintro e_ w1 ⟨rfl, hb⟩; replace HS := sB HS hb; clear hb f1_) | ((with_reducible refine gate_dst (N := 27) rfl ?_); refine wpList_stp (fun K hK => ?_); refine stp_lit (KT) rfl 38 (by rfl) HS (xs := ([] : Ts)) (inner := []) (by first | (go_simp; done) | (go_simp; rfl)) (fun W base ok => Reps.none _ _) (by simp) ?_; clear HS; intro A_o c_o w1 HS; refine hK _ _ ?_; clear hK K) | ((with_reducible refine gate_builtin (b := .append) (xs := #[.tmp 27, .tmp 30]) rfl ?_); at_builtin; refine wpList_stp (fun K hK => ?_); refine stp_rows KT rfl (fun _ _ _ _ _ h => h) (by rfl) HS 0 (xs := []) rfl (.tmp 27) (.tmp 30) 24 (.agg #[(.string ⟨#[]⟩), (.int .i64 0), (.int .i64 0)]) 32 rfl Try.underlying24 infoTerm (by kernel_rfl) (l.take k) rfl rfl (C_takeN (k := k) (HS.out.oldC HR.out) (by omega)) (by show (0 + k) * 32 ≤ _; omega) ?_; clear HS; intro A_y1 c_y1 y1 w1 Ny1 HS; simp only [List.set_cons_zero, List.set_cons_succ] at HS; refine hK _ _ ?_; clear hK K; have f1_ := HS.out.old H0t.out; have f2_ := HS.out.c 1 0 (v := .int .i64 x) rfl rfl; have f3_ := HS.out.c 1 1 (v := .int .i64 y) rfl rfl) | (go_at_call 108; refine (specZero _ _ _).mono ?_; rintro e_ w1 ⟨rfl, hb⟩; replace HS := sB HS hb; clear hb f1_ f2_ f3_; have f1_ := HS.out.c 1 0 (v := .int .i64 x) rfl rfl; have f2_ := HS.out.c 1 1 (v := .int .i64 y) rfl rfl) | ((with_reducible refine gate_builtin (b := .append) (xs := #[.tmp 63, .tmp 67]) rfl ?_); at_builtin; refine wpList_stp (fun K hK => ?_); refine stp_app (KT) rfl (by rfl) HS 0 rfl (.tmp 63) (.tmp 67) 24 38 (.agg #[(.string ⟨#[]⟩), (.int .i64 0), (.int .i64 0)]) 32 rfl Try.underlying24 infoTerm (by kernel_rfl) (((s, x, y) : Tm)) [.string s, .int .i64 x, .int .i64 y] rfl (by first | rfl | (show Value.slice (some ⟨_, 0, none⟩) 1 1 = _; simp)) (KT_M (s, x, y)) (by have h_ := hy1 _ Ny1; omega) ?_; clear HS f1_ f2_; intro A_y2 c_y2 y2 w1 Ny2 HS; simp only [List.set_cons_zero, List.set_cons_succ] at HS; refine hK _ _ ?_; clear hK K) | ((with_reducible refine gate_builtin (b := .append) (xs := #[.tmp 69, .tmp 72]) rfl ?_); at_builtin; refine wpList_stp (fun K hK => ?_); refine stp_rows KT rfl (fun _ _ _ _ _ h => h) (by rfl) HS 0 rfl (.tmp 69) (.tmp 72) 24 (.agg #[(.string ⟨#[]⟩), (.int .i64 0), (.int .i64 0)]) 32 rfl Try.underlying24 infoTerm (by kernel_rfl) (l.drop (k)) rfl rfl (by first | exact C_dropN1 (k := k) (c := c) (HS.out.oldC HR.out) (by omega) hc (by omega) | exact C_dropN2 (k := k) (c := c) (HS.out.oldC HR.out) (by omega) hc (by omega) | exact C_dropN3 (k := k) (c := c) (HS.out.oldC HR.out) (by omega) hc) (by have h_ := hy2 _ _ Ny1 Ny2; omega) ?_; clear HS; intro A_y3 c_y3 y3 w1 Ny3 HS; simp only [List.set_cons_zero, List.set_cons_succ] at HS; refine hK _ _ ?_; clear hK K))
            all_goals (go_ret2; have e_ : resP (put l s (x, y)) = (y3, true) := (by rw [HPut.out]; simp [Ny3.out, Ny2.out, Ny1.out, HZ.out, resP]); rw [e_]; exact ⟨A_y3, c_y3, rfl, HS.out.sel [0] (by decide)⟩)
    · obtain rfl : k = l.length := by omega
      have HPut := Aside0.mk (put_end (s := s) (a := (x, y)) HB.out)
      by_cases hz : x = 0
      · skip
        have hzb : (x == 0) = true := by rw [hz]; rfl
        have HZ := Aside0.mk hz
        clear hz
        go_wp2_with (first | ((with_reducible refine gate_dst (N := 27) rfl ?_); refine wpList_stp (fun K hK => ?_); refine stp_lit (KT) rfl 38 (by rfl) HS (xs := ([] : Ts)) (inner := []) (by first | (go_simp; done) | (go_simp; rfl)) (fun W base ok => Reps.none _ _) (by simp) ?_; clear HS; intro A_o c_o w1 HS; refine hK _ _ ?_; clear hK K) | ((with_reducible refine gate_builtin (b := .append) (xs := #[.tmp 27, .tmp 30]) rfl ?_); at_builtin; refine wpList_stp (fun K hK => ?_); refine stp_rows KT rfl (fun _ _ _ _ _ h => h) (by rfl) HS 0 (xs := []) rfl (.tmp 27) (.tmp 30) 24 (.agg #[(.string ⟨#[]⟩), (.int .i64 0), (.int .i64 0)]) 32 rfl Try.underlying24 infoTerm (by kernel_rfl) (l.take l.length) rfl rfl (C_takeN (k := l.length) (HS.out.oldC HR.out) (by omega)) (by show (0 + l.length) * 32 ≤ _; omega) ?_; clear HS; intro A_y1 c_y1 y1 w1 Ny1 HS; simp only [List.set_cons_zero, List.set_cons_succ] at HS; refine hK _ _ ?_; clear hK K; have f1_ := HS.out.c 1 0 (v := .int .i64 x) rfl rfl; have f2_ := HS.out.c 1 1 (v := .int .i64 y) rfl rfl) | (go_at_call 108; refine (specZero _ _ _).mono ?_; rintro e_ w1 ⟨rfl, hb⟩; replace HS := sB HS hb; clear hb f1_ f2_) | ((with_reducible refine gate_builtin (b := .append) (xs := #[.tmp 69, .tmp 72]) rfl ?_); at_builtin; refine wpList_stp (fun K hK => ?_); refine stp_rows KT rfl (fun _ _ _ _ _ h => h) (by rfl) HS 0 rfl (.tmp 69) (.tmp 72) 24 (.agg #[(.string ⟨#[]⟩), (.int .i64 0), (.int .i64 0)]) 32 rfl Try.underlying24 infoTerm (by kernel_rfl) ([] : Ts) rfl rfl C_zero (by have h_ := hy1 _ Ny1; omega) ?_; clear HS; intro A_y3 c_y3 y3 w1 Ny3 HS; simp only [List.set_cons_zero, List.set_cons_succ] at HS; refine hK _ _ ?_; clear hK K))
        all_goals (go_ret2; have e_ : resP (put l s (x, y)) = (y3, true) := (by rw [HPut.out]; simp [Ny3.out, Ny1.out, HZ.out, resP]); rw [e_]; exact ⟨A_y3, c_y3, rfl, HS.out.sel [0] (by decide)⟩)
      · skip
        have hzb : (x == 0) = false := by simpa using hz
        have HZ := Aside0.mk hz
        clear hz
        go_wp2_with (first | ((with_reducible refine gate_dst (N := 27) rfl ?_); refine wpList_stp (fun K hK => ?_); refine stp_lit (KT) rfl 38 (by rfl) HS (xs := ([] : Ts)) (inner := []) (by first | (go_simp; done) | (go_simp; rfl)) (fun W base ok => Reps.none _ _) (by simp) ?_; clear HS; intro A_o c_o w1 HS; refine hK _ _ ?_; clear hK K) | ((with_reducible refine gate_builtin (b := .append) (xs := #[.tmp 27, .tmp 30]) rfl ?_); at_builtin; refine wpList_stp (fun K hK => ?_); refine stp_rows KT rfl (fun _ _ _ _ _ h => h) (by rfl) HS 0 (xs := []) rfl (.tmp 27) (.tmp 30) 24 (.agg #[(.string ⟨#[]⟩), (.int .i64 0), (.int .i64 0)]) 32 rfl Try.underlying24 infoTerm (by kernel_rfl) (l.take l.length) rfl rfl (C_takeN (k := l.length) (HS.out.oldC HR.out) (by omega)) (by show (0 + l.length) * 32 ≤ _; omega) ?_; clear HS; intro A_y1 c_y1 y1 w1 Ny1 HS; simp only [List.set_cons_zero, List.set_cons_succ] at HS; refine hK _ _ ?_; clear hK K; have f1_ := HS.out.c 1 0 (v := .int .i64 x) rfl rfl; have f2_ := HS.out.c 1 1 (v := .int .i64 y) rfl rfl) | (go_at_call 108; refine (specZero _ _ _).mono ?_; rintro e_ w1 ⟨rfl, hb⟩; replace HS := sB HS hb; clear hb f1_ f2_; have f1_ := HS.out.c 1 0 (v := .int .i64 x) rfl rfl; have f2_ := HS.out.c 1 1 (v := .int .i64 y) rfl rfl) | ((with_reducible refine gate_builtin (b := .append) (xs := #[.tmp 63, .tmp 67]) rfl ?_); at_builtin; refine wpList_stp (fun K hK => ?_); refine stp_app (KT) rfl (by rfl) HS 0 rfl (.tmp 63) (.tmp 67) 24 38 (.agg #[(.string ⟨#[]⟩), (.int .i64 0), (.int .i64 0)]) 32 rfl Try.underlying24 infoTerm (by kernel_rfl) (((s, x, y) : Tm)) [.string s, .int .i64 x, .int .i64 y] rfl (by first | rfl | (show Value.slice (some ⟨_, 0, none⟩) 1 1 = _; simp)) (KT_M (s, x, y)) (by have h_ := hy1 _ Ny1; omega) ?_; clear HS f1_ f2_; intro A_y2 c_y2 y2 w1 Ny2 HS; simp only [List.set_cons_zero, List.set_cons_succ] at HS; refine hK _ _ ?_; clear hK K) | ((with_reducible refine gate_builtin (b := .append) (xs := #[.tmp 69, .tmp 72]) rfl ?_); at_builtin; refine wpList_stp (fun K hK => ?_); refine stp_rows KT rfl (fun _ _ _ _ _ h => h) (by rfl) HS 0 rfl (.tmp 69) (.tmp 72) 24 (.agg #[(.string ⟨#[]⟩), (.int .i64 0), (.int .i64 0)]) 32 rfl Try.underlying24 infoTerm (by kernel_rfl) ([] : Ts) rfl rfl C_zero (by have h_ := hy2 _ _ Ny1 Ny2; omega) ?_; clear HS; intro A_y3 c_y3 y3 w1 Ny3 HS; simp only [List.set_cons_zero, List.set_cons_succ] at HS; refine hK _ _ ?_; clear hK K))
        all_goals (go_ret2; have e_ : resP (put l s (x, y)) = (y3, true) := (by rw [HPut.out]; simp [Ny3.out, Ny2.out, Ny1.out, HZ.out, resP]); rw [e_]; exact ⟨A_y3, c_y3, rfl, HS.out.sel [0] (by decide)⟩)
end Go.Proofs.Ytibjkjhpfmmjoaa.H



namespace Go.Proofs.Ytibjkjhpfmmjoaa.M
def unitR (d n : Int) : Rs := if lev d n = true then (d, n, unitT, 0) else noS 2
end Go.Proofs.Ytibjkjhpfmmjoaa.M
namespace Go.Proofs.Ytibjkjhpfmmjoaa.H
open Go.RowKit Go.Proofs.YtibjkjhpfmmjoaaW.PrintWords Go.Proofs.YtibjkjhpfmmjoaaW.PrintLast Go.Proofs.YtibjkjhpfmmjoaaW.PrintMore Go.Proofs.Ytibjkjhpfmmjoaa.M
attribute [local go_sem] max2_int min2_int max_two min_two max_three min_three max_four min_four
set_option linter.unusedVariables false
set_option linter.unusedSimpArgs false
set_option maxRecDepth 100000
set_option maxHeartbeats 4000000 in
theorem implUnitSeries (d n : Int) (w : World) : Calls Try.prog 28 #[.int .i64 d, .int .i64 n] w (RetS w (unitR d n)) := by
  have HS := Aside0.mk (Sep.refl w)
  unfold unitR
  cases h : lev d n with
  | false =>
    go_enter Try.func28, Try.ntmps28
    go_wp2_with (first | ((with_reducible refine gate_dst (N := 4) rfl ?_); refine bxL 26 #[(.int .i64 0), (.int .i64 0), (.slice none 0 0)] HS ?_; clear HS; intro g_r w1 hg_r HS) | (go_at_call 78; refine (implLevel _ _ _).mono ?_; rintro e_ w1 ⟨rfl, hb⟩; replace HS := sB HS hb; clear hb) | ((with_reducible refine gate_store (t := 26) (p := 4) rfl ?_); refine stL HS 0 0 #[(.int .i64 0), (.int .i64 0), (.slice none 0 0)] rfl rfl rfl rfl rfl ?_; clear HS; intro w1 HS))
    refine bodyPost_ret (results_cell_tmp_row rfl _ _ g_r 26 #[(.int .i64 0), (.int .i64 0), (.slice none 0 0)] (0, 0) _ rfl (HS.out.at (i := 0) rfl) Try.underlying26 rfl (by kernel_rfl)) rfl ?_
    replace HS : Aside0 (Mod _ _ _ []) := sX HS []
    exact ⟨none, 0, rfl, nilS HS.out⟩
  | true =>
    obtain ⟨d, n, rfl, rfl, hd1, hd3, hn1, hn5⟩ := lev_nat h
    have HL := Aside0.mk h
    have HU := Aside0.mk (show toldR d n (upd (fun _ => (0, 1)) eps (1, 1), false) = ((d : Int), (n : Int), unitT, 0) by unfold toldR; rw [if_neg (by simp), tabT_unit (by omega)])
    have HTo := Aside0.mk (fun g v W h1 h2 => HU.out ▸ implTold g v d n false (upd (fun _ => (0, 1)) eps (1, 1)) W HL.out h1 h2)
    go_enter Try.func28, Try.ntmps28
    go_wp2_with (first | ((with_reducible refine gate_dst (N := 4) rfl ?_); refine bxL 26 #[(.int .i64 0), (.int .i64 0), (.slice none 0 0)] HS ?_; clear HS; intro g_r w1 hg_r HS) | (go_at_call 78; refine (implLevel _ _ _).mono ?_; rintro e_ w1 ⟨rfl, hb⟩; replace HS := sB HS hb; clear hb) | (go_at_call 79; refine (implNew d n HL.out _).mono ?_; rintro e_ w1 ⟨g, v, rfl, hs⟩; replace HS := sN2 HS hs; clear hs) | (go_at_call 80; refine (implUnit g v d n _ false _ HL.out (HS.out.at (i := 0) rfl)).mono ?_; rintro e_ w1 ⟨g', v', rfl, hs⟩; replace HS := sN2 HS hs; clear hs) | (go_at_call 69; refine (HTo.out g' v' _ (HS.out.at (i := 0) rfl) (HS.out.at (i := 1) rfl)).mono ?_; rintro e_ w1 ⟨B, b, rfl, hs⟩; replace HS := sN1 HS hs; clear hs) | ((with_reducible refine gate_store (t := 26) (p := 4) rfl ?_); refine stL HS 5 0 #[.int .i64 (d : Int), .int .i64 (n : Int), .slice B unitT.length b] rfl rfl rfl rfl rfl ?_; clear HS; intro w1 HS))
    refine bodyPost_ret (results_cell_tmp_row rfl _ _ g_r 26 #[.int .i64 (d : Int), .int .i64 (n : Int), .slice B unitT.length b] (0, 0) _ rfl (HS.out.at (i := 5) rfl) Try.underlying26 rfl (by kernel_rfl)) rfl ?_
    replace HS : Aside0 (Mod _ _ _ [_]) := sX HS [0]
    exact ⟨B, b, rfl, HS.out⟩
end Go.Proofs.Ytibjkjhpfmmjoaa.H



namespace Go.Proofs.Ytibjkjhpfmmjoaa.M
def putR (d n : Int) (l : Ts) (s : ByteArray) (x y : Int) : Rs := if isS d n l = true then if isFr x y = true then if (s.size : Int) ≤ n ∧ isWd d.toNat s = true then (d, n, tabT d.toNat n.toNat (upd (co l) s (x, y)), 0) else noS 2 else noS 1 else noS 1
end Go.Proofs.Ytibjkjhpfmmjoaa.M
namespace Go.Proofs.Ytibjkjhpfmmjoaa.H
open Go.RowKit Go.Proofs.YtibjkjhpfmmjoaaW.PrintWords Go.Proofs.YtibjkjhpfmmjoaaW.PrintLast Go.Proofs.YtibjkjhpfmmjoaaW.PrintMore Go.Proofs.Ytibjkjhpfmmjoaa.M
attribute [local go_sem] max2_int min2_int max_two min_two max_three min_three max_four min_four resP toldR
set_option linter.unusedVariables false
set_option linter.unusedSimpArgs false
set_option maxRecDepth 100000
set_option maxHeartbeats 16000000 in
theorem implPutTerm (d n : Int) (A : Option Addr) (c : Nat) (l : Ts) (s : ByteArray) (x y : Int) (w : World) (hr : KT.C w A l.length l) (hc : l.length ≤ c) (hb : bnd l = true) (hsz : s.size ≤ 1048576) :
    Calls Try.prog 40 #[.agg #[.int .i64 d, .int .i64 n, .slice A l.length c], .string s, .agg #[.int .i64 x, .int .i64 y]] w (RetS w (putR d n l s x y)) := by
  have HR := Aside0.mk hr
  have HB := Aside0.mk hb
  have HS := Aside0.mk (Sep.refl w)
  clear hr hb
  unfold putR
  cases h : isS d n l with
  | false =>
    go_enter Try.func40, Try.ntmps40
    go_wp2_with (first | ((with_reducible refine gate_dst (N := 3) rfl ?_); refine bxL 26 #[.int .i64 d, .int .i64 n, .slice A l.length c] HS ?_; clear HS; intro g_p w1 hg_p HS) | ((with_reducible refine gate_dst (N := 5) rfl ?_); refine bxL 34 #[.int .i64 x, .int .i64 y] HS ?_; clear HS; intro g_a w1 hg_a HS) | ((with_reducible refine gate_dst (N := 6) rfl ?_); refine bxL 26 #[(.int .i64 0), (.int .i64 0), (.slice none 0 0)] HS ?_; clear HS; intro g_r w1 hg_r HS; have f1_ := HS.out.c 2 0 (v := .int .i64 d) rfl rfl; have f2_ := HS.out.c 2 1 (v := .int .i64 n) rfl rfl; have f3_ := HS.out.c 2 2 (v := .slice A l.length c) rfl rfl) | (go_at_call 52; refine (implIs d n A c l _ (HS.out.oldC HR.out) hc HB.out).mono ?_; rintro e_ w1 ⟨rfl, hb⟩; replace HS := sB HS hb; clear hb f1_ f2_ f3_) | ((with_reducible refine gate_store (t := 26) (p := 6) rfl ?_); refine stL HS 0 0 #[(.int .i64 0), (.int .i64 0), (.slice none 0 0)] rfl rfl rfl rfl rfl ?_; clear HS; intro w1 HS))
    refine bodyPost_ret (results_cell_tmp_row rfl _ _ g_r 26 #[(.int .i64 0), (.int .i64 0), (.slice none 0 0)] (0, 0) _ rfl (HS.out.at (i := 0) rfl) Try.underlying26 rfl (by kernel_rfl)) rfl ?_
    exact ⟨none, 0, rfl, nilS (HS.out.sel [] (by decide))⟩
  | true =>
    cases hf : isFr x y with
    | false =>
      go_enter Try.func40, Try.ntmps40
      go_wp2_with (first | ((with_reducible refine gate_dst (N := 3) rfl ?_); refine bxL 26 #[.int .i64 d, .int .i64 n, .slice A l.length c] HS ?_; clear HS; intro g_p w1 hg_p HS) | ((with_reducible refine gate_dst (N := 5) rfl ?_); refine bxL 34 #[.int .i64 x, .int .i64 y] HS ?_; clear HS; intro g_a w1 hg_a HS) | ((with_reducible refine gate_dst (N := 6) rfl ?_); refine bxL 26 #[(.int .i64 0), (.int .i64 0), (.slice none 0 0)] HS ?_; clear HS; intro g_r w1 hg_r HS; have f1_ := HS.out.c 2 0 (v := .int .i64 d) rfl rfl; have f2_ := HS.out.c 2 1 (v := .int .i64 n) rfl rfl; have f3_ := HS.out.c 2 2 (v := .slice A l.length c) rfl rfl) | (go_at_call 52; refine (implIs d n A c l _ (HS.out.oldC HR.out) hc HB.out).mono ?_; rintro e_ w1 ⟨rfl, hb⟩; replace HS := sB HS hb; clear hb f1_ f2_ f3_; have f1_ := HS.out.c 1 0 (v := .int .i64 x) rfl rfl; have f2_ := HS.out.c 1 1 (v := .int .i64 y) rfl rfl) | (go_at_call 96; refine (implIsFraction x y _).mono ?_; rintro e_ w1 ⟨rfl, hb⟩; replace HS := sB HS hb; clear hb f1_ f2_) | ((with_reducible refine gate_store (t := 26) (p := 6) rfl ?_); refine stL HS 0 0 #[(.int .i64 0), (.int .i64 0), (.slice none 0 0)] rfl rfl rfl rfl rfl ?_; clear HS; intro w1 HS))
      refine bodyPost_ret (results_cell_tmp_row rfl _ _ g_r 26 #[(.int .i64 0), (.int .i64 0), (.slice none 0 0)] (0, 0) _ rfl (HS.out.at (i := 0) rfl) Try.underlying26 rfl (by kernel_rfl)) rfl ?_
      exact ⟨none, 0, rfl, nilS (HS.out.sel [] (by decide))⟩
    | true =>
      have HX := Aside0.mk (isS_t h)
      have hlev := isS_l h
      obtain ⟨d, n, rfl, rfl, hd1, hd3, hn1, hn5⟩ := lev_nat hlev
      have HL := Aside0.mk hlev
      clear hlev
      rw [Int.toNat_natCast, Int.toNat_natCast] at HX
      rw [Int.toNat_natCast, Int.toNat_natCast]
      cases hw : isWd d s && decide (s.size ≤ n) with
      | false =>
        have hnn : ¬ ((s.size : Int) ≤ n ∧ isWd d s = true) := fun h => by
          have h1 : s.size ≤ n := by omega
          simp [h.2, h1] at hw
        rw [if_pos rfl, if_pos rfl, if_neg hnn]
        clear hnn
        go_enter Try.func40, Try.ntmps40
        go_wp2_with (first | ((with_reducible refine gate_dst (N := 3) rfl ?_); refine bxL 26 #[.int .i64 (d : Int), .int .i64 (n : Int), .slice A l.length c] HS ?_; clear HS; intro g_p w1 hg_p HS) | ((with_reducible refine gate_dst (N := 5) rfl ?_); refine bxL 34 #[.int .i64 x, .int .i64 y] HS ?_; clear HS; intro g_a w1 hg_a HS) | ((with_reducible refine gate_dst (N := 6) rfl ?_); refine bxL 26 #[(.int .i64 0), (.int .i64 0), (.slice none 0 0)] HS ?_; clear HS; intro g_r w1 hg_r HS; have f1_ := HS.out.c 2 0 (v := .int .i64 (d : Int)) rfl rfl; have f2_ := HS.out.c 2 1 (v := .int .i64 (n : Int)) rfl rfl; have f3_ := HS.out.c 2 2 (v := .slice A l.length c) rfl rfl) | (go_at_call 52; refine (implIs d n A c l _ (HS.out.oldC HR.out) hc HB.out).mono ?_; rintro e_ w1 ⟨rfl, hb⟩; replace HS := sB HS hb; clear hb f1_ f2_ f3_; have f1_ := HS.out.c 1 0 (v := .int .i64 x) rfl rfl; have f2_ := HS.out.c 1 1 (v := .int .i64 y) rfl rfl) | (go_at_call 96; refine (implIsFraction x y _).mono ?_; rintro e_ w1 ⟨rfl, hb⟩; replace HS := sB HS hb; clear hb f1_ f2_; have f1_ := HS.out.c 2 0 (v := .int .i64 (d : Int)) rfl rfl; have f2_ := HS.out.c 2 1 (v := .int .i64 (n : Int)) rfl rfl) | (go_at_call 63; refine (implWord d n (by omega) s (by omega) _).mono ?_; rintro e_ w1 ⟨rfl, hb⟩; replace HS := sB HS hb; clear hb f1_ f2_) | ((with_reducible refine gate_store (t := 26) (p := 6) rfl ?_); refine stL HS 0 0 #[(.int .i64 0), (.int .i64 0), (.slice none 0 0)] rfl rfl rfl rfl rfl ?_; clear HS; intro w1 HS))
        refine bodyPost_ret (results_cell_tmp_row rfl _ _ g_r 26 #[(.int .i64 0), (.int .i64 0), (.slice none 0 0)] (0, 0) _ rfl (HS.out.at (i := 0) rfl) Try.underlying26 rfl (by kernel_rfl)) rfl ?_
        exact ⟨none, 0, rfl, nilS (HS.out.sel [] (by decide))⟩
      | true =>
        have hw2 := hw
        rw [Bool.and_eq_true, decide_eq_true_eq] at hw2
        have HW := Aside0.mk hw2
        have hnn : (s.size : Int) ≤ n ∧ isWd d s = true := ⟨by omega, hw2.1⟩
        rw [if_pos rfl, if_pos rfl, if_pos hnn]
        have hlt : num d s < nW d n := num_lt' hw2.1 hw2.2
        have hs5 : s.size ≤ 5 := by have := hw2.2; omega
        clear hnn hw2
        obtain ⟨k, hk⟩ : ∃ k, num d s = k := ⟨_, rfl⟩
        have CN := fun W => (hk ▸ implNumber d s W hd1 hd3 HW.out.1 hs5 : Calls Try.prog 97 #[.int .i64 (d : Int), .string s] W fun e w' => e = .returned (.int .i64 ((k : Nat) : Int)) ∧ Below W.heap.size W w')
        have HCN := Aside0.mk CN
        have HK := Aside0.mk hk
        rw [hk] at hlt
        clear CN hk
        have CO := fun W h => implOpen d n A c l W HL.out h HX.out
        have HCO := Aside0.mk CO
        have HTo := Aside0.mk (fun g v f W h1 h2 => implTold g v d n false f W HL.out h1 h2)
        obtain ⟨N, hN⟩ : ∃ N, N = nW d n := ⟨_, rfl⟩
        rw [← hN] at hlt HCO HTo
        clear hN CO
        have hq0 : (0 : Int) ≤ k := by omega
        have hq1 : (k : Int) < N := by omega
        obtain ⟨f, hfe⟩ : ∃ f, f = upd (co l) s (x, y) := ⟨_, rfl⟩
        have HFE := Aside0.mk hfe
        rw [← hfe]
        clear hfe
        go_enter Try.func40, Try.ntmps40
        go_wp2_with (first | ((with_reducible refine gate_dst (N := 3) rfl ?_); refine bxL 26 #[.int .i64 (d : Int), .int .i64 (n : Int), .slice A l.length c] HS ?_; clear HS; intro g_p w1 hg_p HS) | ((with_reducible refine gate_dst (N := 5) rfl ?_); refine bxL 34 #[.int .i64 x, .int .i64 y] HS ?_; clear HS; intro g_a w1 hg_a HS) | ((with_reducible refine gate_dst (N := 6) rfl ?_); refine bxL 26 #[(.int .i64 0), (.int .i64 0), (.slice none 0 0)] HS ?_; clear HS; intro g_r w1 hg_r HS; have f1_ := HS.out.c 2 0 (v := .int .i64 (d : Int)) rfl rfl; have f2_ := HS.out.c 2 1 (v := .int .i64 (n : Int)) rfl rfl; have f3_ := HS.out.c 2 2 (v := .slice A l.length c) rfl rfl) | (go_at_call 52; refine (implIs d n A c l _ (HS.out.oldC HR.out) hc HB.out).mono ?_; rintro e_ w1 ⟨rfl, hb⟩; replace HS := sB HS hb; clear hb f1_ f2_ f3_; have f1_ := HS.out.c 1 0 (v := .int .i64 x) rfl rfl; have f2_ := HS.out.c 1 1 (v := .int .i64 y) rfl rfl) | (go_at_call 96; refine (implIsFraction x y _).mono ?_; rintro e_ w1 ⟨rfl, hb⟩; replace HS := sB HS hb; clear hb f1_ f2_; have f1_ := HS.out.c 2 0 (v := .int .i64 (d : Int)) rfl rfl; have f2_ := HS.out.c 2 1 (v := .int .i64 (n : Int)) rfl rfl) | (go_at_call 63; refine (implWord d n (by omega) s (by omega) _).mono ?_; rintro e_ w1 ⟨rfl, hb⟩; replace HS := sB HS hb; clear hb f1_ f2_; have f1_ := HS.out.c 2 0 (v := .int .i64 (d : Int)) rfl rfl; have f2_ := HS.out.c 2 1 (v := .int .i64 (n : Int)) rfl rfl; have f3_ := HS.out.c 2 2 (v := .slice A l.length c) rfl rfl) | (go_at_call 64; refine (HCO.out _ (HS.out.oldC HR.out)).mono ?_; rintro e_ w1 ⟨g, v, rfl, hs⟩; replace HS := sN2 HS hs; clear hs f1_ f2_ f3_))
        replace HS := sD HS
        refine ps (.p 0 (.p 1 (.p 2 (.p 4 (.p 5 (.p 6 (.p 8 (.t 3 (.t 7 (.t 10 (.e 9 (.p 11 (.d 12 .done))))))))))))) (fun w' => w'.cell? ⟨g, 2, none⟩ = some (.slice (some ⟨v, 0, none⟩) N N) ∧ w'.cell? ⟨g, 0, none⟩ = some (.int .i64 (d : Int)) ∧ w'.cell? ⟨g_a, 0, none⟩ = some (.int .i64 x) ∧ w'.cell? ⟨g_a, 1, none⟩ = some (.int .i64 y)) [12] ⟨HS.out.c 0 2 (v := .slice (some ⟨v, 0, none⟩) N N) rfl rfl, HS.out.c 0 0 (v := .int .i64 (d : Int)) rfl rfl, HS.out.c 3 0 (v := .int .i64 x) rfl rfl, HS.out.c 3 1 (v := .int .i64 y) rfl rfl⟩ (fun hHeld => ?_)
        repeat (first | ((with_reducible refine gate_p ?_); refine rp rfl rfl ?_) | ((with_reducible refine gate_t ?_); refine rt rfl rfl hHeld ?_))
        refine run_e rfl (fun K hK => ?_)
        refine gc Try.func97 (HCN.out _) rfl rfl ?_
        rintro e_ w1 ⟨rfl, hb⟩
        refine ⟨_, rfl, ?_⟩
        replace HS := sB HS hb
        clear hb
        refine ge hK ⟨HS.out.c 0 2 (v := .slice (some ⟨v, 0, none⟩) N N) rfl rfl, HS.out.c 0 0 (v := .int .i64 (d : Int)) rfl rfl, HS.out.c 3 0 (v := .int .i64 x) rfl rfl, HS.out.c 3 1 (v := .int .i64 y) rfl rfl⟩ (fun hHeld => ?_)
        clear hK K
        repeat (first | ((with_reducible refine gate_p ?_); refine rp rfl rfl ?_) | ((with_reducible refine gate_t ?_); refine rt rfl rfl hHeld ?_))
        refine run_d rfl (fun K hK => ?_)
        refine stp_put_tab (by rfl) rfl rfl HS 1 rfl s (by omega) HW.out.1 HW.out.2 HK.out (x, y) rfl rfl (by kernel_rfl) ?_
        clear HS
        intro w1 HS
        simp only [List.set_cons_zero, List.set_cons_succ] at HS
        rw [← HFE.out] at HS
        refine goD hK rfl ?_
        clear hK K
        refine run_done ?_
        clear hHeld
        go_wp2_with (first | (go_at_call 69; refine (HTo.out g v f _ (HS.out.at (i := 0) rfl) (HS.out.at (i := 1) rfl)).mono ?_; rintro e_ w1 ⟨B, b, rfl, hs⟩; replace HS := sN1 HS hs; clear hs) | ((with_reducible refine gate_store (t := 26) (p := 6) rfl ?_); refine stL HS 3 0 #[.int .i64 (d : Int), .int .i64 (n : Int), .slice B (tabT d n f).length b] rfl rfl rfl rfl rfl ?_; clear HS; intro w1 HS))
        refine bodyPost_ret (results_cell_tmp_row rfl _ _ g_r 26 #[.int .i64 (d : Int), .int .i64 (n : Int), .slice B (tabT d n f).length b] (0, 0) _ rfl (HS.out.at (i := 3) rfl) Try.underlying26 rfl (by kernel_rfl)) rfl ?_
        exact ⟨B, b, rfl, HS.out.sel [0] (by decide)⟩
end Go.Proofs.Ytibjkjhpfmmjoaa.H



namespace Go.Proofs.Ytibjkjhpfmmjoaa.M
def addR (d n : Int) (l : Ts) (d2 n2 : Int) (l2 : Ts) : Rs := if codeR d n l d2 n2 l2 = 0 then resO d n (sumS l l2) else noS (codeR d n l d2 n2 l2)
end Go.Proofs.Ytibjkjhpfmmjoaa.M
namespace Go.Proofs.Ytibjkjhpfmmjoaa.H
open Go.RowKit Go.Proofs.YtibjkjhpfmmjoaaW.PrintWords Go.Proofs.YtibjkjhpfmmjoaaW.PrintLast Go.Proofs.YtibjkjhpfmmjoaaW.PrintMore Go.Proofs.Ytibjkjhpfmmjoaa.M
attribute [local go_sem] max2_int min2_int max_two min_two max_three min_three max_four min_four resQ
set_option linter.unusedVariables false
set_option linter.unusedSimpArgs false
set_option maxRecDepth 100000
set_option maxHeartbeats 8000000 in
theorem implAddSeries (d n : Int) (A : Option Addr) (c : Nat) (l : Ts) (d2 n2 : Int) (A2 : Option Addr) (cc : Nat) (l2 : Ts) (w : World) (hr : KT.C w A l.length l) (hc : l.length ≤ c) (hb : bnd l = true) (hr2 : KT.C w A2 l2.length l2) (hcc : l2.length ≤ cc) (hb2 : bnd l2 = true) :
    Calls Try.prog 42 #[.agg #[.int .i64 d, .int .i64 n, .slice A l.length c], .agg #[.int .i64 d2, .int .i64 n2, .slice A2 l2.length cc]] w (RetS w (addR d n l d2 n2 l2)) := by
  have HR := Aside0.mk hr
  have HB := Aside0.mk hb
  have HR2 := Aside0.mk hr2
  have HB2 := Aside0.mk hb2
  have HS := Aside0.mk (Sep.refl w)
  clear hr hb hr2 hb2
  have HC := Aside0.mk (fun W k1 k2 => implCode d n A c l d2 n2 A2 cc l2 W k1 hc HB.out k2 hcc HB2.out)
  unfold addR
  obtain ⟨k, hk⟩ : ∃ k, k = codeR d n l d2 n2 l2 := ⟨_, rfl⟩
  rw [← hk] at HC
  rw [← hk]
  by_cases h0 : k = 0
  · subst h0
    obtain ⟨h1, h2, h3, h4⟩ := codeR_zero hk.symm
    subst h3 h4
    clear hk
    have HX := Aside0.mk (isS_t h1)
    have HY := Aside0.mk (isS_t h2)
    have hlev := isS_l h1
    obtain ⟨d, n, rfl, rfl, hd1, hd3, hn1, hn5⟩ := lev_nat hlev
    have HL := Aside0.mk hlev
    clear h1 h2 hlev
    rw [Int.toNat_natCast, Int.toNat_natCast] at HX HY
    rw [if_pos rfl]
    have hg : good (mapT d n (fun s => add (co l s) (co l2 s)) false (nW d n)).1 := mapT_good (fun s c h => add_fr h) false _
    have HE := Aside0.mk (Rel.told (by omega) hg (sum_relS (by omega) HX.out HY.out))
    have CS := fun g v g2 v2 W h1 h2 h3 h4 => implSum g v g2 v2 d n false false (co l) (co l2) W HL.out h1 h2 h3 h4 (good_co HX.out) (good_co HY.out)
    have HCS := Aside0.mk CS
    clear CS hg
    rw [Bool.or_false] at HCS
    obtain ⟨F, hF⟩ : ∃ F, F = mapT d n (fun s => add (co l s) (co l2 s)) false (nW d n) := ⟨_, rfl⟩
    rw [← hF] at HE HCS
    clear hF
    have HTo := Aside0.mk (fun g v W h1 h2 => HE.out ▸ implTold g v d n F.2 F.1 W HL.out h1 h2)
    clear HE
    obtain ⟨o, ho⟩ : ∃ o, o = sumS l l2 := ⟨_, rfl⟩
    rw [← ho] at HTo
    rw [← ho]
    clear ho
    go_enter Try.func42, Try.ntmps42
    go_wp2_with (first | ((with_reducible refine gate_dst (N := 2) rfl ?_); refine bxL 26 #[.int .i64 (d : Int), .int .i64 (n : Int), .slice A l.length c] HS ?_; clear HS; intro g_p w1 hg_p HS) | ((with_reducible refine gate_dst (N := 3) rfl ?_); refine bxL 26 #[.int .i64 (d : Int), .int .i64 (n : Int), .slice A2 l2.length cc] HS ?_; clear HS; intro g_a w1 hg_a HS) | ((with_reducible refine gate_dst (N := 4) rfl ?_); refine bxL 26 #[(.int .i64 0), (.int .i64 0), (.slice none 0 0)] HS ?_; clear HS; intro g_r w1 hg_r HS; have f1_ := HS.out.c 2 0 (v := .int .i64 (d : Int)) rfl rfl; have f2_ := HS.out.c 2 1 (v := .int .i64 (n : Int)) rfl rfl; have f3_ := HS.out.c 2 2 (v := .slice A l.length c) rfl rfl; have f4_ := HS.out.c 1 0 (v := .int .i64 (d : Int)) rfl rfl; have f5_ := HS.out.c 1 1 (v := .int .i64 (n : Int)) rfl rfl; have f6_ := HS.out.c 1 2 (v := .slice A2 l2.length cc) rfl rfl) | (go_at_call 67; refine (HC.out _ (HS.out.oldC HR.out) (HS.out.oldC HR2.out)).mono ?_; rintro e_ w1 ⟨rfl, hb⟩; replace HS := sB HS hb; clear hb f1_ f2_ f3_ f4_ f5_ f6_))
    replace HS := sD HS
    refine ps (.t 0 (.t 2 (.e 1 (.d 3 (.d 4 (.d 5 (.p 6 (.p 7 (.d 8 (.p 9 .done)))))))))) (fun w' => w'.cell? ⟨g_p, 0, none⟩ = some (.int .i64 (d : Int)) ∧ w'.cell? ⟨g_p, 1, none⟩ = some (.int .i64 (n : Int)) ∧ w'.cell? ⟨g_p, 2, none⟩ = some (.slice A l.length c) ∧ w'.cell? ⟨g_a, 0, none⟩ = some (.int .i64 (d : Int)) ∧ w'.cell? ⟨g_a, 1, none⟩ = some (.int .i64 (n : Int)) ∧ w'.cell? ⟨g_a, 2, none⟩ = some (.slice A2 l2.length cc)) [3, 4, 5, 8] ⟨HS.out.c 2 0 (v := .int .i64 (d : Int)) rfl rfl, HS.out.c 2 1 (v := .int .i64 (n : Int)) rfl rfl, HS.out.c 2 2 (v := .slice A l.length c) rfl rfl, HS.out.c 1 0 (v := .int .i64 (d : Int)) rfl rfl, HS.out.c 1 1 (v := .int .i64 (n : Int)) rfl rfl, HS.out.c 1 2 (v := .slice A2 l2.length cc) rfl rfl⟩ (fun hHeld => ?_)
    repeat (first | ((with_reducible refine gate_p ?_); refine rp rfl rfl ?_) | ((with_reducible refine gate_t ?_); refine rt rfl rfl hHeld ?_))
    refine run_e rfl (fun K hK => ?_)
    refine gc Try.func64 (implOpen d n A c l _ HL.out (HS.out.oldC HR.out) HX.out) rfl rfl ?_
    rintro e_ w1 ⟨g, v, rfl, hs⟩
    refine ⟨_, rfl, ?_⟩
    replace HS := sN2 HS hs
    clear hs
    refine ge hK ⟨HS.out.c 4 0 (v := .int .i64 (d : Int)) rfl rfl, HS.out.c 4 1 (v := .int .i64 (n : Int)) rfl rfl, HS.out.c 4 2 (v := .slice A l.length c) rfl rfl, HS.out.c 3 0 (v := .int .i64 (d : Int)) rfl rfl, HS.out.c 3 1 (v := .int .i64 (n : Int)) rfl rfl, HS.out.c 3 2 (v := .slice A2 l2.length cc) rfl rfl⟩ (fun hHeld => ?_)
    clear hK K
    refine run_d rfl (fun K hK => ?_)
    refine gc Try.func64 (implOpen d n A2 cc l2 _ HL.out (HS.out.oldC HR2.out) HY.out) rfl rfl ?_
    rintro e_ w1 ⟨g2, v2, rfl, hs⟩
    refine ⟨_, rfl, ?_⟩
    replace HS := sN2 HS hs
    clear hs
    refine gd hK ?_
    clear hK K
    refine run_d rfl (fun K hK => ?_)
    refine gc Try.func98 (HCS.out g v g2 v2 _ (HS.out.at (i := 2) rfl) (HS.out.at (i := 3) rfl) (HS.out.at (i := 0) rfl) (HS.out.at (i := 1) rfl)) rfl rfl ?_
    rintro e_ w1 ⟨g3, v3, rfl, hs⟩
    refine ⟨_, rfl, ?_⟩
    replace HS := sN2 HS hs
    clear hs
    refine gd hK ?_
    clear hK K
    refine run_d rfl (fun K hK => ?_)
    refine gc Try.func69 (HTo.out g3 v3 _ (HS.out.at (i := 0) rfl) (HS.out.at (i := 1) rfl)) rfl rfl ?_
    rintro e_ w1 ⟨B, b, rfl, hs⟩
    refine ⟨_, rfl, ?_⟩
    replace HS := sN1 HS hs
    clear hs
    refine gd hK ?_
    clear hK K
    repeat (first | ((with_reducible refine gate_p ?_); refine rp rfl rfl ?_) | ((with_reducible refine gate_t ?_); refine rt rfl rfl hHeld ?_))
    refine run_d rfl (fun K hK => ?_)
    refine st1 HS 7 0 #[.int .i64 (resO d n o).1, .int .i64 (resO d n o).2.1, .slice B (resO d n o).2.2.1.length b] rfl rfl rfl rfl rfl ?_
    clear HS
    intro w1 HS
    refine goD hK rfl ?_
    clear hK K
    repeat (first | ((with_reducible refine gate_p ?_); refine rp rfl rfl ?_) | ((with_reducible refine gate_t ?_); refine rt rfl rfl hHeld ?_))
    refine run_done ?_
    clear hHeld
    go_wp2
    refine bodyPost_ret (results_cell_tmp_row rfl _ _ g_r 26 #[.int .i64 (resO d n o).1, .int .i64 (resO d n o).2.1, .slice B (resO d n o).2.2.1.length b] (0, 0) _ rfl (HS.out.at (i := 7) rfl) Try.underlying26 rfl (by kernel_rfl)) rfl ?_
    exact ⟨B, b, rfl, HS.out.sel [0] (by decide)⟩
  · have hkb : (k != 0) = true := by simpa using h0
    rw [if_neg h0]
    clear hk h0
    go_enter Try.func42, Try.ntmps42
    go_wp2_with (first | ((with_reducible refine gate_dst (N := 2) rfl ?_); refine bxL 26 #[.int .i64 d, .int .i64 n, .slice A l.length c] HS ?_; clear HS; intro g_p w1 hg_p HS) | ((with_reducible refine gate_dst (N := 3) rfl ?_); refine bxL 26 #[.int .i64 d2, .int .i64 n2, .slice A2 l2.length cc] HS ?_; clear HS; intro g_a w1 hg_a HS) | ((with_reducible refine gate_dst (N := 4) rfl ?_); refine bxL 26 #[(.int .i64 0), (.int .i64 0), (.slice none 0 0)] HS ?_; clear HS; intro g_r w1 hg_r HS; have f1_ := HS.out.c 2 0 (v := .int .i64 d) rfl rfl; have f2_ := HS.out.c 2 1 (v := .int .i64 n) rfl rfl; have f3_ := HS.out.c 2 2 (v := .slice A l.length c) rfl rfl; have f4_ := HS.out.c 1 0 (v := .int .i64 d2) rfl rfl; have f5_ := HS.out.c 1 1 (v := .int .i64 n2) rfl rfl; have f6_ := HS.out.c 1 2 (v := .slice A2 l2.length cc) rfl rfl) | (go_at_call 67; refine (HC.out _ (HS.out.oldC HR.out) (HS.out.oldC HR2.out)).mono ?_; rintro e_ w1 ⟨rfl, hb⟩; replace HS := sB HS hb; clear hb f1_ f2_ f3_ f4_ f5_ f6_) | ((with_reducible refine gate_store (t := 26) (p := 4) rfl ?_); refine stL HS 0 0 #[(.int .i64 0), (.int .i64 0), (.slice none 0 0)] rfl rfl rfl rfl rfl ?_; clear HS; intro w1 HS))
    refine bodyPost_ret (results_cell_tmp_row rfl _ _ g_r 26 #[(.int .i64 0), (.int .i64 0), (.slice none 0 0)] (0, 0) _ rfl (HS.out.at (i := 0) rfl) Try.underlying26 rfl (by kernel_rfl)) rfl ?_
    exact ⟨none, 0, rfl, nilS (HS.out.sel [] (by decide))⟩
end Go.Proofs.Ytibjkjhpfmmjoaa.H



namespace Go.Proofs.Ytibjkjhpfmmjoaa.M
set_option linter.unusedVariables false
set_option linter.unusedSimpArgs false
theorem okW2_swap (d n : Int) (v w : ByteArray) : okW2 d n w v = okW2 d n v w := by
  unfold okW2
  cases lev d n <;> cases isWd d.toNat v <;> cases isWd d.toNat w <;> cases decide (v.size ≤ n.toNat) <;> cases decide (w.size ≤ n.toNat) <;> rfl
theorem shWT_swap (d n : Nat) (v w : ByteArray) : shWT d n w v = shWT d n v w := by
  have h1 : shTm w v = shTm v w := by funext u; unfold shTm; rw [sh_comm]
  have h2 : shW d w v = shW d v w := by
    unfold shW
    rw [Nat.add_comm]
    congr 1
    funext u
    rw [sh_comm]
  unfold shWT
  rw [h1, h2, Nat.add_comm]
theorem sw_swap (d n : Int) (v w : ByteArray) : swR d n w v = swR d n v w := by
  unfold swR
  rw [okW2_swap, shWT_swap]
theorem sw_cases (d n : Int) (v w : ByteArray) : (okW2 d n v w = true ∧ swR d n v w = (d, n, shWT d.toNat n.toNat v w, 0)) ∨ swR d n v w = noS 2 := by
  unfold swR
  by_cases h : okW2 d n v w = true
  · rw [if_pos h]; exact .inl ⟨h, rfl⟩
  · rw [if_neg h]; exact .inr rfl
theorem sw_terms {d n : Int} {v w : ByteArray} {a b c : Int} {l : Ts} (e : swR d n v w = (a, b, l, c)) {t : Tm} (ht : t ∈ l) : ∃ u m, t = (u, m, 1) ∧ snR d v w u = (m, 0) ∧ u.size ≤ 5 := by
  rcases sw_cases d n v w with ⟨h, e2⟩ | e2
  · have e3 := e.symm.trans e2
    injection e3 with _ e3; injection e3 with _ e3; injection e3 with e3 _
    subst e3
    unfold okW2 at h
    simp only [Bool.and_eq_true, decide_eq_true_eq] at h
    obtain ⟨h1, h2, h3, h4, h5⟩ := h
    have hl := lev_iff.1 h1
    unfold shWT at ht
    split at ht
    · cases ht
    · rename_i hn
      obtain ⟨u, hu, rfl⟩ := List.mem_map.1 ht
      obtain ⟨g1, g2⟩ := shW_mem (d := d.toNat) (by omega) hu
      refine ⟨u, _, rfl, snR_yes ⟨(inR_iff _ _ _).2 hl.1, h2, h3, g2, by omega, by omega, by omega⟩, by omega⟩
  · have e3 := e.symm.trans e2
    injection e3 with _ e3; injection e3 with _ e3; injection e3 with e3 _
    subst e3
    cases ht
def noC (d n : Int) (l : Ts) : Ts := tabT d.toNat n.toNat (upd (co l) eps (0, 1))
theorem noC_good {d n : Int} {l : Ts} (h : isS d n l = true) : good (upd (co l) eps (0, 1)) := good_upd (good_co (isS_t h)) fr_zero
theorem noC_isS {d n : Int} {l : Ts} (h : isS d n l = true) : isS d n (noC d n l) = true := isS_mk (isS_l h) (tabT_is (lev_nat (isS_l h)).2.2 (noC_good h))
theorem noC_ne {d n : Int} {l : Ts} (h : isS d n l = true) : ∀ t ∈ noC d n l, t.1.size ≠ 0 := fun t ht e => by
  obtain ⟨_, _, h3, h4⟩ := (tabT_mem (lev_nat (isS_l h)).2.2).1 ht
  have he : t.1 = eps := bl_ext (List.eq_nil_of_length_eq_zero (by rw [bl_len]; exact e))
  rw [h3, he] at h4
  unfold upd at h4
  rw [if_pos rfl] at h4
  exact h4 rfl
theorem put_noC {d n : Int} {l : Ts} (h : isS d n l = true) : putR d n l eps 0 1 = (d, n, noC d n l, 0) := by
  unfold putR
  have hl := lev_iff.1 (isS_l h)
  rw [if_pos h, if_pos (by decide), if_pos ⟨by show ((0 : Nat) : Int) ≤ n; omega, rfl⟩]
  rfl
abbrev halfR (d n : Int) (l : Ts) (d2 n2 : Int) (l2 : Ts) : Rs := twoR shH d n l d2 n2 l2
abbrev shuR (d n : Int) (l : Ts) (d2 n2 : Int) (l2 : Ts) : Rs := twoR shF d n l d2 n2 l2
theorem twoR_same {f : Nat → Nat → Ts → Ts → Option Ts} {d n : Int} {x y : Ts} (hx : isS d n x = true) (hy : isS d n y = true) : twoR f d n x d n y = resO d n (f d.toNat n.toNat x y) := by
  unfold twoR
  rw [if_pos (codeR_4 hx hy (by simp))]
theorem twoR_zero {f : Nat → Nat → Ts → Ts → Option Ts} {d n : Int} {x y : Ts} {d2 n2 a b : Int} {l : Ts} (e : twoR f d n x d2 n2 y = (a, b, l, 0)) : isS d n x = true ∧ isS d n y = true ∧ d = d2 ∧ n = n2 := by
  unfold twoR at e
  by_cases h : codeR d n x d2 n2 y = 0
  · obtain ⟨h1, h2, h3, h4⟩ := codeR_zero h
    subst h3 h4
    exact ⟨h1, h2, rfl, rfl⟩
  · rw [if_neg h] at e
    injection e with _ e; injection e with _ e; injection e with _ e
    exact absurd e h
theorem resO_zero {d n : Int} {o : Option Ts} {a b : Int} {l : Ts} (e : resO d n o = (a, b, l, 0)) : a = d ∧ b = n ∧ o = some l := by
  cases o with
  | none => injection e with _ e; injection e with _ e; injection e with _ e; cases e
  | some z => injection e with e1 e; injection e with e2 e; injection e with e3 e; exact ⟨e1.symm, e2.symm, by rw [e3]⟩
theorem two_bnd {f : Nat → Nat → Ts → Ts → Option Ts} (hf : ∀ d n x y, d ≤ 9 → isTs d n x = true → isTs d n y = true → ∃ F, Rel d n (f d n x y) F) (ht : ∀ d n x y z, d ≤ 9 → f d n x y = some z → isTs d n z = true) {d n : Int} {x : Ts} {d2 n2 : Int} {y : Ts} {a b c : Int} {l : Ts} (e : twoR f d n x d2 n2 y = (a, b, l, c)) : bnd l = true := by
  by_cases h : codeR d n x d2 n2 y = 0
  · obtain ⟨h1, h2, h3, h4⟩ := codeR_zero h
    subst h3 h4
    rw [twoR_same h1 h2] at e
    cases ho : f d.toNat n.toNat x y with
    | none => rw [ho] at e; injection e with _ e; injection e with _ e; injection e with e _; rw [← e]; rfl
    | some z =>
      rw [ho] at e
      injection e with _ e; injection e with _ e; injection e with e _
      rw [← e]
      exact isS_bnd' (isS_mk (isS_l h1) (ht _ _ _ _ _ (lev_nat (isS_l h1)).2.2 ho))
  · unfold twoR at e
    rw [if_neg h] at e
    injection e with _ e; injection e with _ e; injection e with e _; rw [← e]; rfl
theorem half_bnd {d n : Int} {x : Ts} {d2 n2 : Int} {y : Ts} {a b c : Int} {l : Ts} (e : halfR d n x d2 n2 y = (a, b, l, c)) : bnd l = true := two_bnd shH_ex (fun _ _ _ _ _ hd h => sh_ts hd h) e
theorem shu_bnd {d n : Int} {x : Ts} {d2 n2 : Int} {y : Ts} {a b c : Int} {l : Ts} (e : shuR d n x d2 n2 y = (a, b, l, c)) : bnd l = true := two_bnd shF_ex (fun _ _ _ _ _ hd h => sh_ts hd h) e
theorem halves_R {d n : Int} {x y : Ts} (hx : isS d n x = true) (hy : isS d n y = true) {a1 b1 a2 b2 a3 b3 : Int} {l1 l2 l3 : Ts} (h1 : halfR d n (noC d n x) d n (noC d n y) = (a1, b1, l1, 0)) (h2 : halfR d n (noC d n y) d n (noC d n x) = (a2, b2, l2, 0)) (h3 : shuR d n (noC d n x) d n (noC d n y) = (a3, b3, l3, 0)) : addR a1 b1 l1 a2 b2 l2 = (a3, b3, l3, 0) := by
  have fx := noC_isS hx
  have fy := noC_isS hy
  obtain ⟨k1, k2, k9⟩ := lev_nat (isS_l hx)
  unfold halfR at h1 h2
  unfold shuR at h3
  rw [twoR_same fx fy] at h1 h3
  rw [twoR_same fy fx] at h2
  obtain ⟨rfl, rfl, e1⟩ := resO_zero h1
  obtain ⟨rfl, rfl, e2⟩ := resO_zero h2
  obtain ⟨rfl, rfl, e3⟩ := resO_zero h3
  have hs := halves_sum k9 (by omega) (isS_t fx) (isS_t fy) (noC_ne hx) (noC_ne hy) e1 e2 e3
  have i1 := isS_mk (isS_l hx) (sh_ts k9 e1)
  have i2 := isS_mk (isS_l hx) (sh_ts k9 e2)
  unfold addR
  rw [if_pos (codeR_4 i1 i2 (by simp)), hs]
  rfl
end Go.Proofs.Ytibjkjhpfmmjoaa.M

namespace Go.Proofs.Ytibjkjhpfmmjoaa.H
open Go.RowKit Go.Proofs.YtibjkjhpfmmjoaaW.PrintWords Go.Proofs.YtibjkjhpfmmjoaaW.PrintLast Go.Proofs.YtibjkjhpfmmjoaaW.PrintMore Go.Proofs.Ytibjkjhpfmmjoaa.M
attribute [local go_sem] max2_int min2_int max_two min_two max_three min_three max_four min_four
set_option linter.unusedVariables false
set_option linter.unusedSimpArgs false
set_option maxRecDepth 100000
abbrev srcB (g : Nat) (A : Option Addr) (n c : Nat) (k : Nat) (h : Int) : As := bx g 98 #[.slice A n c, .int .i64 (k : Int), .int .u64 h]
def Code (w : World) (g : Nat) (A : Option Addr) (n : Nat) : Prop := ∀ i, i < n → ∃ (ad : Addr) (x : Int), A = some ad ∧ ad.block ≠ g ∧ w.cell? (ad.add i) = some (.int .u8 x) ∧ 0 ≤ x ∧ x < 256
theorem add_blk (a : Addr) (i : Nat) : (a.add i).block = a.block := by unfold Addr.add; split <;> rfl
theorem cell_heap {w W : World} {a : Addr} (h : W.heap[a.block]? = w.heap[a.block]?) : W.cell? a = w.cell? a := by
  unfold World.cell?
  rw [h]
theorem Mod.keep {w W : World} {S : Nat → Prop} {L : List As} (h : Mod w W S L) {a : Addr} {v : Value} (hc : w.cell? a = some v) (hS : ¬ S a.block) : W.cell? a = some v :=
  (cell_heap (h.block _ (World.block_lt_of_cell? w _ hc) hS)).trans hc
theorem source_bound (z : Int) : 0 ≤ wrap64 (bits BinOp.and IntKind.u64 (IntKind.u64.wrap z / 2147483648) 1073741823) ∧ wrap64 (bits BinOp.and IntKind.u64 (IntKind.u64.wrap z / 2147483648) 1073741823) ≤ 1073741823 := by
  have h0 : 0 ≤ IntKind.u64.wrap z ∧ IntKind.u64.wrap z < 18446744073709551616 := by rw [IntKind.wrap_u64]; omega
  have h64 : (2 : Int) ^ 64 = 18446744073709551616 := by decide
  have h1 := bits_mask .u64 64 (by decide) (fun n a b => IntWalk.u64_in n ⟨a, by rw [h64] at b; omega⟩) 30 (by decide) (IntKind.u64.wrap z / 2147483648) (by omega) (by rw [h64]; omega)
  rw [show ((2 : Int) ^ 30 - 1) = 1073741823 by decide, show ((2 : Int) ^ 30) = 1073741824 by decide] at h1
  rw [h1]
  have h2 : 0 ≤ IntKind.u64.wrap z / 2147483648 % 1073741824 ∧ IntKind.u64.wrap z / 2147483648 % 1073741824 < 1073741824 := by omega
  rw [wrap_id (by omega) (by omega)]
  omega
theorem tmod_bound {a n : Int} (ha : 0 ≤ a) (hn : 1 ≤ n) : 0 ≤ Int.tmod a n ∧ Int.tmod a n < n := ⟨Int.tmod_nonneg _ ha, Int.tmod_lt_of_pos _ (by omega)⟩
theorem Code.mod {w W : World} {g n : Nat} {A : Option Addr} {L : List As} {S : Nat → Prop} (h : Code w g A n) (HS : Mod w W S L) (hS : ∀ k, S k → k = g) : Code W g A n := fun i hi => by
  obtain ⟨ad, x, h1, h2, h3, h4⟩ := h i hi
  refine ⟨ad, x, h1, h2, ?_, h4⟩
  rw [cell_heap (w := w) (HS.block _ (World.block_lt_of_cell? w _ h3) (fun hk => h2 (by rw [← add_blk ad i]; exact hS _ hk)))]
  exact h3
theorem ki_at {w : World} {k : IntKind} {A : Option Addr} {n : Nat} {l : List Int} (h : (Kd.int k).C w A n l) {i : Nat} {a : Int} (hi : l[i]? = some a) : ∃ ad, A = some ad ∧ w.cell? (ad.add i) = some (.int k a) := by
  obtain ⟨h1, h2⟩ := List.getElem?_eq_some_iff.1 hi
  have hln : l.length = n := h.1
  obtain ⟨ad, c, hA, hl, hK, hc⟩ := Kd.C_get h 0 (i : Int) (by omega) (by omega)
  simp only [Int.toNat_natCast] at hc hK
  have hK' : c = [.int k (l.getD i 0)] := hK
  subst hK'
  have := hc 0 _ rfl
  rw [List.getD_eq_getElem?_getD, hi] at this
  exact ⟨ad, hA, by rwa [show (Kd.int k).sz = 1 from rfl, Nat.mul_one, Nat.add_zero] at this⟩
theorem Mod.ge {w W : World} {L : List As} (h : Mod w W No L) {i g t : Nat} {cs : Array Value} (hi : L[i]? = some (bx g t cs)) : w.heap.size ≤ g :=
  ((h.all _ (List.mem_of_getElem? hi)).2 g rfl).elim (fun h => h.elim) id
theorem Code.of {w W : World} {L : List As} {A : Option Addr} {xs : List Int} (HS : Mod w W No L) {i g t : Nat} {cs : Array Value} (hi : L[i]? = some (bx g t cs)) (hr : (Kd.int .u8).C w A xs.length xs) (hx : ∀ x ∈ xs, 0 ≤ x ∧ x < 256) : Code W g A xs.length := fun j hj => by
  have hj' : xs[j]? = some xs[j] := List.getElem?_eq_getElem hj
  obtain ⟨ad, h1, h2⟩ := ki_at hr hj'
  have h3 := HS.ge hi
  have h4 : (ad.add j).block < w.heap.size := World.block_lt_of_cell? w _ h2
  exact ⟨ad, xs[j], h1, fun e => by rw [← e] at h3; rw [add_blk] at h4; omega, HS.old h2, hx _ (List.getElem_mem hj)⟩
set_option maxHeartbeats 8000000 in
theorem specFrom (A : Option Addr) (c : Nat) (xs : List Int) (w : World) (hr : (Kd.int .u8).C w A xs.length xs) (hl : xs.length ≤ 1048576) :
    Calls Try.prog 51 #[.slice A xs.length c] w fun e w' => ∃ (g : Nat) (h : Int), e = .returned (.pointer (some ⟨g, 0, none⟩)) ∧ Sep w w' [srcB g A xs.length c 0 h] := by
  have HR := Aside0.mk hr
  have HS := Aside0.mk (Sep.refl w)
  clear hr
  go_enter Try.func51, Try.ntmps51
  go_wp2_with (first | ((with_reducible refine gate_dst (N := 11) rfl ?_); refine bxL 98 #[(.slice A xs.length c), (.int .i64 0), (.int .u64 _)] HS ?_; clear HS; intro g_s w1 hg_s HS))
  go_loopw [4] (fun q w' => ∃ (i : Nat) (h : Int), i ≤ xs.length ∧ q = .int .i64 (i : Int) ∧ Aside0 (Mod w w' No [bx g_s 98 #[.slice A xs.length c, .int .i64 0, .int .u64 h]])) (fun q _ => xs.length - (intOf q).toNat)
  case atStart => exact ⟨0, _, by omega, rfl, HS⟩
  case round =>
    clear HS
    obtain ⟨i, h, hi, rfl, HS⟩ := hrel
    by_cases hlt : i < xs.length
    · obtain ⟨x, hx⟩ : ∃ x, xs[i]? = some x := ⟨_, List.getElem?_eq_getElem hlt⟩
      obtain ⟨ad, ea, h_⟩ := ki_at HR.out hx
      have HX := Aside0.mk h_
      cases ea
      clear h_ hx
      by_cases h4 : i < 4096
      · skip
        go_wp2
        replace HS := sD HS
        refine ps (.p 0 (.p 1 (.p 2 (.p 3 (.p 6 (.p 7 (.p 8 (.t 4 (.p 5 (.t 9 (.p 10 (.p 11 (.p 12 (.p 13 (.p 14 (.d 15 .done)))))))))))))))) (fun w' => w'.cell? ⟨g_s, 2, none⟩ = some (.int .u64 h) ∧ w'.cell? (ad.add i) = some (.int .u8 x)) [15] ⟨HS.out.c 0 2 (v := .int .u64 h) rfl rfl, HS.out.old HX.out⟩ (fun hHeld => ?_)
        repeat (first | ((with_reducible refine gate_p ?_); refine rp rfl rfl ?_) | ((with_reducible refine gate_t ?_); refine rt rfl rfl hHeld ?_))
        refine run_d rfl (fun K hK => ?_)
        refine st1 HS 0 2 #[.slice (some ad) xs.length c, .int .i64 0, (.int .u64 _)] rfl rfl rfl rfl rfl ?_
        clear HS
        intro w1 HS
        refine goD hK rfl ?_
        clear hK K
        refine run_done ?_
        clear hHeld
        go_wp2
        go_roundw
        case rel => exact ⟨i + 1, _, by omega, by go_num, HS⟩
        case measure => simp [intOf]; omega
      · skip
        go_wp2
        go_ret
        exact ⟨g_s, h, rfl, HS.out⟩
    · obtain rfl : i = xs.length := by omega
      go_wp2
      go_ret
      exact ⟨g_s, h, rfl, HS.out⟩
set_option maxHeartbeats 8000000 in
theorem specNext (g : Nat) (A : Option Addr) (c m k : Nat) (h n : Int) (w : World) (ho : (srcB g A m c k h).I w) (hcd : Code w g A m) (hk : k ≤ m) (hm : m ≤ 1048576) (hn : n ≤ 4611686018427387904) :
    Calls Try.prog 57 #[.pointer (some ⟨g, 0, none⟩), .int .i64 n] w fun e w' => ∃ (r : Int) (k' : Nat) (h' : Int), e = .returned (.int .i64 r) ∧ k' ≤ m ∧ (1 ≤ n → 0 ≤ r ∧ r < n) ∧ (n < 1 → r = 0) ∧ Mod w w' (fun b => b = g) [srcB g A m c k' h'] := by
  have HS := Aside0.mk (Mod.own1 ho)
  have HC := Aside0.mk hcd
  clear ho hcd
  by_cases h1 : n < 1
  · skip
    go_enter Try.func57, Try.ntmps57
    go_wp2
    go_ret
    exact ⟨0, k, h, rfl, hk, fun h => by omega, fun _ => rfl, HS.out⟩
  · skip
    go_enter Try.func57, Try.ntmps57
    have f1_ := HS.out.c 0 2 (v := .int .u64 h) rfl rfl
    go_wp2_with (first | ((with_reducible refine gate_store (t := 96) (p := 16) rfl ?_); refine stL HS 0 2 #[.slice A m c, .int .i64 (k : Int), (.int .u64 _)] rfl rfl rfl rfl rfl ?_; clear HS f1_; intro w1 HS; have f1_ := HS.out.c 0 2 (v := (.int .u64 _)) rfl rfl))
    have hB := source_bound (IntKind.u64.wrap (h * 6364136223846793005) + 1442695040888963407)
    obtain ⟨X, hX⟩ : ∃ X, X = wrap64 (bits BinOp.and IntKind.u64 (IntKind.u64.wrap (IntKind.u64.wrap (h * 6364136223846793005) + 1442695040888963407) / 2147483648) 1073741823) := ⟨_, rfl⟩
    rw [← hX] at hB ⊢
    clear hX
    obtain ⟨H, hH⟩ : ∃ H, H = IntKind.u64.wrap (IntKind.u64.wrap (h * 6364136223846793005) + 1442695040888963407) := ⟨_, rfl⟩
    rw [← hH] at HS f1_ ⊢
    clear hH
    obtain ⟨hX0, hX1⟩ := hB
    by_cases hlt : k < m
    · obtain ⟨ad, x, ea, hne, hcell, hx0, hx1⟩ := HC.out k hlt
      have HX := Aside0.mk hcell
      have HNE := Aside0.mk (show ¬ (ad.add k).block = g by rw [add_blk]; exact hne)
      cases ea
      clear hcell hne
      clear f1_
      go_wp2
      replace HS := sD HS
      refine ps (.p 0 (.p 1 (.p 2 (.p 4 (.p 5 (.p 6 (.t 3 (.t 7 (.p 8 (.p 9 .done)))))))))) (fun w' => w'.cell? ⟨g, 1, none⟩ = some (.int .i64 (k : Int)) ∧ w'.cell? ⟨g, 0, none⟩ = some (.slice (some ad) m c)) [] ⟨HS.out.c 0 1 (v := .int .i64 (k : Int)) rfl rfl, HS.out.c 0 0 (v := .slice (some ad) m c) rfl rfl⟩ (fun hHeld => ?_)
      repeat (first | ((with_reducible refine gate_p ?_); refine rp rfl rfl ?_) | ((with_reducible refine gate_t ?_); refine rt rfl rfl hHeld ?_))
      refine run_done ?_
      clear hHeld
      go_wp2
      replace HS := sD HS
      refine ps (.p 0 (.p 1 (.p 2 (.p 3 (.p 5 (.p 6 (.p 7 (.t 4 (.t 8 (.p 9 (.t 10 (.p 11 (.p 12 (.p 13 .done)))))))))))))) (fun w' => w'.cell? ⟨g, 0, none⟩ = some (.slice (some ad) m c) ∧ w'.cell? ⟨g, 1, none⟩ = some (.int .i64 (k : Int)) ∧ w'.cell? (ad.add k) = some (.int .u8 x)) [] ⟨HS.out.c 0 0 (v := .slice (some ad) m c) rfl rfl, HS.out.c 0 1 (v := .int .i64 (k : Int)) rfl rfl, HS.out.keep HX.out HNE.out⟩ (fun hHeld => ?_)
      repeat (first | ((with_reducible refine gate_p ?_); refine rp rfl rfl ?_) | ((with_reducible refine gate_t ?_); refine rt rfl rfl hHeld ?_))
      refine run_done ?_
      clear hHeld
      have f1_ := HS.out.c 0 1 (v := .int .i64 (k : Int)) rfl rfl
      go_wp2_with (first | ((with_reducible refine gate_store (t := 3) (p := 54) rfl ?_); refine stL HS 0 1 #[.slice (some ad) m c, (.int .i64 ((k + 1 : Nat) : Int)), .int .u64 H] rfl rfl rfl rfl rfl ?_; clear HS f1_; intro w1 HS))
      go_ret
      refine ⟨_, k + 1, H, rfl, by omega, fun _ => ?_, fun h => absurd h (by omega), HS.out⟩
      rw [wrap_id (x := x) (by omega) (by omega), wrap_id (x := X + x) (by omega) (by omega)]
      first | exact tmod_bound (by omega) (by omega) | exact ⟨Int.emod_nonneg _ (by omega), Int.emod_lt_of_pos _ (by omega)⟩
    · skip
      clear f1_
      go_wp2
      replace HS := sD HS
      refine ps (.p 0 (.p 1 (.p 2 (.p 4 (.p 5 (.p 6 (.t 3 (.t 7 (.p 8 (.p 9 .done)))))))))) (fun w' => w'.cell? ⟨g, 1, none⟩ = some (.int .i64 (k : Int)) ∧ w'.cell? ⟨g, 0, none⟩ = some (.slice A m c)) [] ⟨HS.out.c 0 1 (v := .int .i64 (k : Int)) rfl rfl, HS.out.c 0 0 (v := .slice A m c) rfl rfl⟩ (fun hHeld => ?_)
      repeat (first | ((with_reducible refine gate_p ?_); refine rp rfl rfl ?_) | ((with_reducible refine gate_t ?_); refine rt rfl rfl hHeld ?_))
      refine run_done ?_
      clear hHeld
      go_wp2
      go_ret
      refine ⟨_, k, H, rfl, by omega, fun _ => ?_, fun h => absurd h (by omega), HS.out⟩
      skip
      first | exact tmod_bound (by omega) (by omega) | exact ⟨Int.emod_nonneg _ (by omega), Int.emod_lt_of_pos _ (by omega)⟩
abbrev rowI (A : Option Addr) (c : Nat) (l : List Int) : As := rw' (Kd.int .i64) rfl 2 (.slice A l.length c) l
theorem Mod.disj {w W : World} {S : Nat → Prop} {L : List As} (h : Mod w W S L) {i j : Nat} {a b : As} (hi : L[i]? = some a) (hj : L[j]? = some b) (hij : i < j) : ∀ k, a.S k → b.S k → False := by
  obtain ⟨h1, rfl⟩ := List.getElem?_eq_some_iff.1 hi
  obtain ⟨h2, rfl⟩ := List.getElem?_eq_some_iff.1 hj
  exact List.pairwise_iff_getElem.1 h.dis i j h1 h2 hij
theorem rowCell {w W : World} {g b : Nat} {S : Nat → Prop} {L : List As} {ad : Addr} {l : List Int} (M : Mod w W S L) (hr : (rowI (some ad) b l).I w) (hS : ∀ k, S k → k = g) (hne : ∀ k, (rowI (some ad) b l).S k → k ≠ g) {i : Nat} {x : Int} (hx : l[i]? = some x) : W.cell? (ad.add i) = some (.int .i64 x) := by
  have h1 : (rowI (some ad) b l).I W := (rowI (some ad) b l).mv (fun k hk => M.block k ((rowI (some ad) b l).lt hr k hk) (fun h => hne k hk (hS k h))) hr
  obtain ⟨ad', ea, hc⟩ := ki_at (Kd.R_reads' h1).2.2 hx
  cases ea
  exact hc
set_option maxHeartbeats 8000000 in
theorem specPick (g : Nat) (A : Option Addr) (c m k : Nat) (h : Int) (B : Option Addr) (b : Nat) (l : List Int) (w : World) (ho : (srcB g A m c k h).I w) (hcd : Code w g A m) (hk : k ≤ m) (hm : m ≤ 1048576) (hr : (rowI B b l).I w) (hne : ∀ k, (rowI B b l).S k → k ≠ g) (hl0 : 1 ≤ l.length) (hl : l.length ≤ 1000) :
    Calls Try.prog 74 #[.pointer (some ⟨g, 0, none⟩), .slice B l.length b] w fun e w' => ∃ (r : Int) (k' : Nat) (h' : Int), e = .returned (.int .i64 r) ∧ k' ≤ m ∧ r ∈ l ∧ Mod w w' (fun b => b = g) [srcB g A m c k' h'] := by
  obtain ⟨ad, ea, h_⟩ := ki_at (Kd.R_reads' hr).2.2 (show l[0]? = some l[0] from List.getElem?_eq_getElem (by omega))
  clear h_
  cases ea
  have HS := Aside0.mk (Mod.own1 ho)
  have HC := Aside0.mk hcd
  have HR := Aside0.mk hr
  have HNE := Aside0.mk hne
  have HN := Aside0.mk (fun W k1 k2 => specNext g A c m k h (l.length : Int) W k1 k2 hk hm (by omega))
  clear ho hcd hr hne
  go_enter Try.func74, Try.ntmps74
  go_wp2_with (first | (go_at_call 57; refine (HN.out _ (HS.out.at (i := 0) rfl) (HC.out.mod HS.out (fun _ h => h))).mono ?_; rintro e_ w1 ⟨r, k1, h1, rfl, hk1, hr1, hr2, hs⟩; replace HS : Aside0 (Mod _ _ _ [_]) := sM1 HS 0 [] rfl hs; clear hs; obtain ⟨hr3, hr4⟩ := hr1 (by omega); clear hr1 hr2; obtain ⟨i, rfl⟩ : ∃ i : Nat, r = i := ⟨r.toNat, by omega⟩; obtain ⟨x, hx⟩ : ∃ x, l[i]? = some x := ⟨_, List.getElem?_eq_getElem (by omega)⟩; have HX := Aside0.mk hx; clear hx; have hil : i < l.length := (by omega); clear hr3 hr4; have f1_ := rowCell HS.out HR.out (fun _ h => h) HNE.out HX.out))
  go_ret
  exact ⟨x, k1, h1, rfl, hk1, List.mem_of_getElem? HX.out, HS.out⟩
end Go.Proofs.Ytibjkjhpfmmjoaa.H



namespace Go.Proofs.Ytibjkjhpfmmjoaa.H
open Go.RowKit Go.Proofs.YtibjkjhpfmmjoaaW.PrintWords Go.Proofs.YtibjkjhpfmmjoaaW.PrintLast Go.Proofs.YtibjkjhpfmmjoaaW.PrintMore Go.Proofs.Ytibjkjhpfmmjoaa.M
attribute [local go_sem] max2_int min2_int max_two min_two max_three min_three max_four min_four
set_option linter.unusedVariables false
set_option linter.unusedSimpArgs false
set_option maxRecDepth 100000
theorem ki_M (x : Int) (W : World) (base : Nat) (ok : Nat → Prop) : (Kd.int .i64).M W base ok x [.int .i64 x] := rfl
theorem reps_ints (W : World) (base : Nat) (ok : Nat → Prop) : ∀ l : List Int, Reps ((Kd.int .i64).M W base ok) (Kd.int .i64).sz l (l.map (Value.int .i64))
  | [] => Reps.none _ _
  | x :: l => Reps.one (ki_M x W base ok) (reps_ints W base ok l)
set_option maxHeartbeats 8000000 in
theorem specNear (g : Nat) (A : Option Addr) (c m k : Nat) (h n : Int) (w : World) (ho : (srcB g A m c k h).I w) (hcd : Code w g A m) (hk : k ≤ m) (hm : m ≤ 1048576) (hn0 : 0 ≤ n) (hn : n ≤ 1000000) :
    Calls Try.prog 75 #[.pointer (some ⟨g, 0, none⟩), .int .i64 n] w fun e w' => ∃ (r : Int) (k' : Nat) (h' : Int), e = .returned (.int .i64 r) ∧ k' ≤ m ∧ (-4611686018427387904 ≤ r ∧ r ≤ 1099511627776) ∧ Mod w w' (fun b => b = g) [srcB g A m c k' h'] := by
  have HS := Aside0.mk (Mod.own1 ho)
  have HC := Aside0.mk hcd
  have HN1 := Aside0.mk (fun W k1 k2 => specNext g A c m k h 14 W k1 k2 hk hm (by omega))
  have HN2 := Aside0.mk (fun k h W k1 k2 hk => specNext g A c m k h (n + 1) W k1 k2 hk hm (by omega))
  have HP := Aside0.mk (fun k h B b W k1 k2 hk k3 k4 => specPick g A c m k h B b [-1, n + 1, 1099511627776, -4611686018427387904] W k1 k2 hk hm k3 k4 (by simp) (by simp))
  clear ho hcd
  go_enter Try.func75, Try.ntmps75
  go_wp2_with (first | (go_at_call 57; refine (HN1.out _ (HS.out.at (i := 0) rfl) (HC.out.mod HS.out (fun _ h => h))).mono ?_; rintro e_ w1 ⟨r, k1, h1, rfl, hk1, hr1, hr2, hs⟩; replace HS : Aside0 (Mod _ _ _ [_]) := sM1 HS 0 [] rfl hs; clear hs; clear hr1 hr2; refine Hid.out ?_))
  refine Lib.hid ?_
  by_cases hr0 : r = 0
  · have hd0 : (r == 0) = true := by rw [hr0]; rfl
    clear hr0
    go_wp2_with (first | ((with_reducible refine gate_dst (N := 11) rfl ?_); refine wpList_stp (fun K hK => ?_); refine stp_lit (Kd.int .i64) rfl 2 (by rfl) HS (xs := [-1, n + 1, 1099511627776, -4611686018427387904]) (inner := [.int .i64 (-1), .int .i64 (n + 1), .int .i64 1099511627776, .int .i64 (-4611686018427387904)]) (by first | (go_simp; done) | (go_simp; rfl)) (fun W base ok => reps_ints W base ok _) (by simp) ?_; clear HS; intro A_l c_l w1 HS; refine hK _ _ ?_; clear hK K) | (go_at_call 74; refine (HP.out k1 h1 A_l c_l _ (HS.out.at (i := 1) rfl) (HC.out.mod HS.out (fun _ h => h)) hk1 (HS.out.at (i := 0) rfl) (fun q h1 h2 => HS.out.disj (i := 0) (j := 1) rfl rfl (by decide) q h1 h2)).mono ?_; rintro e_ w1 ⟨r2, k2, h2, rfl, hk2, hr3, hs⟩; replace HS : Aside0 (Mod _ _ _ [_, _]) := sM1 HS 1 [0] rfl hs; clear hs))
    go_ret
    refine ⟨r2, k2, h2, rfl, hk2, ?_, HS.out.sel [0] (by decide)⟩
    simp only [List.mem_cons, List.not_mem_nil, or_false] at hr3
    omega
  · have hd0 : (r == 0) = false := by simpa using hr0
    clear hr0
    go_wp2_with (first | (go_at_call 57; refine (HN2.out k1 h1 _ (HS.out.at (i := 0) rfl) (HC.out.mod HS.out (fun _ h => h)) hk1).mono ?_; rintro e_ w1 ⟨r2, k2, h2, rfl, hk2, hr3, hr4, hs⟩; replace HS : Aside0 (Mod _ _ _ [_]) := sM1 HS 0 [] rfl hs; clear hs))
    go_ret
    refine ⟨r2, k2, h2, rfl, hk2, ?_, HS.out⟩
    have := hr3 (by omega)
    omega
end Go.Proofs.Ytibjkjhpfmmjoaa.H



namespace Go.Proofs.Ytibjkjhpfmmjoaa.H
open Go.RowKit Go.Proofs.YtibjkjhpfmmjoaaW.PrintWords Go.Proofs.YtibjkjhpfmmjoaaW.PrintLast Go.Proofs.YtibjkjhpfmmjoaaW.PrintMore Go.Proofs.Ytibjkjhpfmmjoaa.M
attribute [local go_sem] max2_int min2_int max_two min_two max_three min_three max_four min_four
set_option linter.unusedVariables false
set_option linter.unusedSimpArgs false
set_option maxRecDepth 100000
theorem reps_strs (W : World) (base : Nat) (ok : Nat → Prop) : ∀ l : List ByteArray, Reps (Kd.string.M W base ok) Kd.string.sz l (l.map Value.string)
  | [] => Reps.none _ _
  | x :: l => Reps.one (str_M x W base ok) (reps_strs W base ok l)
theorem Mod.sx {w W : World} {S : Nat → Prop} {L : List As} (h : Mod w W S L) (i : Nat) {ad : Addr} {c : Nat} {u : List ByteArray} (hi : L[i]? = some (rowS (some ad) c u)) {j : Nat} {s : ByteArray} (hj : u[j]? = some s) : W.cell? (ad.add j) = some (.string s) := by
  obtain ⟨h1, h2⟩ := List.getElem?_eq_some_iff.1 hj
  obtain ⟨ad', e, h0⟩ := str_at (h.reads i hi) j h1
  cases e
  rwa [List.getD_eq_getElem?_getD, hj] at h0
end Go.Proofs.Ytibjkjhpfmmjoaa.H


