/- The law CutsOfWord: its call returns true. Conditions: none. -/
import Derived.Test.YtmjomedmpokbcaaHBase
import Derived.Test.YtmjomedmpokbcaaF1
import Derived.Test.YtmjomedmpokbcaaF2
import Derived.Test.YtmjomedmpokbcaaF3
import Derived.Test.YtmjomedmpokbcaaF4
import Derived.Test.YtmjomedmpokbcaaPureCuts
import Derived.WalkSpells
namespace Go.Proofs.Ytmjomedmpokbcaa.H
open Go.RowKit Go.Proofs.YtmjomedmpokbcaaW.PrintWords Go.Proofs.YtmjomedmpokbcaaW.PrintLast Go.Proofs.YtmjomedmpokbcaaW.PrintMore
set_option linter.unusedVariables false
set_option linter.unusedSimpArgs false
theorem heldSS (k : Nat) (A : Option Addr) (n c : Nat) (l : List (List ByteArray)) (hn : l.length = n) (a r : Int) (w : World) (hr : (Kd.slice 9 Kd.string).C w A n l) (hc : n ≤ c) (h : F.laws_heldStringSS.f k l a = some r) :
    Calls Try.prog 40 #[.slice A n c, .int .i64 a] w fun e w' => e = .returned (.int .i64 r) ∧ Below w.heap.size w w' := by
  subst hn
  exact F.laws_heldStringSS.calls k A c l a r w hr hc h
theorem readS {w : World} {base n c : Nat} {ok : Nat → Prop} {A : Option Addr} {l : List (List ByteArray)} (h : Kd.S (Kd.slice 9 Kd.string) 37 w base ok (.slice A n c) l) : l.length = n ∧ n ≤ c ∧ (Kd.slice 9 Kd.string).C w A n l := by
  obtain ⟨A', c', e, hl, hr⟩ := Kd.S_reads h
  injection e with e1 e2 e3
  subst e1 e2 e3
  exact ⟨rfl, hl, hr⟩
set_option maxHeartbeats 4000000 in
theorem lawCutsOfWord (d : Int) (s : ByteArray) (w : World) (hd : (Lit.int .i64 d).wf = true) (hs : s.size ≤ 9223372036854775807) :
    Calls Try.prog 11 #[.int .i64 d, .string s] w fun e w' => e = .returned (.bool true) ∧ Below w.heap.size w w' := by
  by_cases hbig : s.size ≤ 1048576
  · obtain ⟨ps, code, hp, e1, e2⟩ := Pure.CW.both d s hbig
    obtain ⟨m, L, m1, m2, m3, m4⟩ := Pure.CW.marks ps hp
    have HS := Aside0.mk e1
    have HI := Aside0.mk e2
    have HQ := Aside0.mk (Pure.CW.eq_rows ps hp 300 (Nat.le_refl _))
    have HM := Aside0.mk m1
    have HH := Aside0.mk m2
    obtain ⟨l, hl⟩ : ∃ l, l = ps.map Pure.CW.row := ⟨_, rfl⟩
    rw [← hl] at HS HI HQ HM
    have HLL := Aside0.mk (show L.length = l.length by rw [m4, hl, List.length_map])
    have hm0 : decide (m < 0) = false := by simp; omega
    clear e1 e2 m1 m2 m4 hl hp hd m3
    have tok1 : True := trivial
    have tok2 : True := trivial
    have tok3 : True := trivial
    have HB := Aside0.mk (Below.refl w.heap.size w)
    go_enter Try.func11, Try.ntmps11
    go_wp2_with (first | (go_at_call 36; go_must (refine (F.spec_CutsOfWord.calls 1048600 _ _ l code _ HS.out).mono ?_; rintro e wa ⟨v5, rfl, hS5, hb⟩; obtain ⟨A5, c5, ev, hl5, hC5⟩ := Kd.S_reads hS5; subst ev; have HC5 := Aside0.mk hC5; have HC5a := Aside0.mk hC5; have HN5 := Aside0.mk hl5; have hn_ := Aside0.mk (below_step (by repeat (first | (with_reducible first | exact HB.out | apply below_alloc | apply pw_below_drewN | apply below_drew1) | exact HB.out)) hb); clear HB hb; have HB := hn_; clear hn_; clear hS5 hC5 hl5; have HBa := Aside0.mk HB.out; have HX := Aside0.mk (Below.refl wa.heap.size wa))) | (go_at_call 37; clear tok1; go_must (refine (F.impl_CutsOfWord.calls 1048600 _ _ l code _ HI.out).mono ?_; rintro e wb ⟨v7, rfl, hS7, hb⟩; obtain ⟨A7, c7, ev, hl7, hC7⟩ := Kd.S_reads hS7; subst ev; have HS7 := Aside0.mk hS7; have n0_ := Aside0.mk (Kd.C_below HC5.out hb); clear HC5; have HC5 := n0_; clear n0_; have n0_ := Aside0.mk hb; clear HX; have HX := n0_; clear n0_; have hn_ := Aside0.mk (below_step (by repeat (first | (with_reducible first | exact HB.out | apply below_alloc | apply pw_below_drewN | apply below_drew1) | exact HB.out)) hb); clear HB hb; have HB := hn_; clear hn_; clear hS7 hC7 hl7)) | (go_at_call 38; clear tok2; go_must (refine (F.laws_eqStringSS.calls 300 _ _ l _ _ l true _ (readS HS7.out).2.2 (readS HS7.out).2.1 HC5.out HN5.out HQ.out).mono ?_; rintro e w' ⟨rfl, ⟨nd, rfl⟩⟩; have n0_ := Aside0.mk (Kd.S_drewN HS7.out nd); have n1_ := Aside0.mk (Kd.C_drewN HC5.out nd); have n2_ := Aside0.mk (pw_below_drewN HB.out nd); have n3_ := Aside0.mk (pw_below_drewN HX.out nd); clear HS7 HC5 HB HX; have HS7 := n0_; have HC5 := n1_; have HB := n2_; have HX := n3_; clear n0_ n1_ n2_ n3_)) | (go_at_call 39; go_must (refine (F.laws_markStringSS.calls 300 (fun _ => True) _ l 1 m L wa _ HX.out HS7.out HM.out).mono ?_; rintro e wd ⟨rfl, hS7, hb, hk⟩; have n0_ := Aside0.mk (Kd.S_mono (ok' := fun _ => True) hS7 (fun _ _ => trivial)); have n1_ := Aside0.mk (Kd.C_below HC5a.out hb); have n2_ := Aside0.mk (below_step HBa.out hb); have n3_ := Aside0.mk hb; clear HS7 HC5 HB HX hS7 hb hk; have HS7 := n0_; have HC5 := n1_; have HB := n2_; have HX := n3_; clear n0_ n1_ n2_ n3_)) | (go_at_call 40; go_must (refine (heldSS 300 _ _ _ L HLL.out 1 m _ (HLL.out ▸ (readS HS7.out).2.2) (readS HS7.out).2.1 HH.out).mono ?_; rintro e we ⟨rfl, hb⟩; have n0_ := Aside0.mk (Kd.S_below HS7.out hb); have n1_ := Aside0.mk (Kd.C_below HC5.out hb); have n2_ := Aside0.mk (below_step HB.out hb); clear HS7 HC5 HB hb; have HS7 := n0_; have HC5 := n1_; have HB := n2_; clear n0_ n1_ n2_)) | (go_at_call 37; clear tok3; go_must (refine (F.impl_CutsOfWord.calls 1048600 _ _ l code _ HI.out).mono ?_; rintro e wb ⟨v11, rfl, hS11, hb⟩; obtain ⟨A11, c11, ev, hl11, hC11⟩ := Kd.S_reads hS11; subst ev; have HC11 := Aside0.mk hC11; have HN11 := Aside0.mk hl11; have n0_ := Aside0.mk (Kd.S_below HS7.out hb); have n1_ := Aside0.mk (Kd.C_below HC5.out hb); have n2_ := Aside0.mk (below_step HB.out hb); clear HS7 HC5 HB hb hS11 hC11 hl11; have HS7 := n0_; have HC5 := n1_; have HB := n2_; clear n0_ n1_ n2_)) | (go_at_call 38; go_must (refine (F.laws_eqStringSS.calls 300 _ _ l _ _ l true _ HC11.out HN11.out HC5.out HN5.out HQ.out).mono ?_; rintro e w' ⟨rfl, ⟨nd, rfl⟩⟩; have n0_ := Aside0.mk (Kd.S_drewN HS7.out nd); have n1_ := Aside0.mk (Kd.C_drewN HC5.out nd); have n2_ := Aside0.mk (pw_below_drewN HB.out nd); clear HS7 HC5 HB; have HS7 := n0_; have HC5 := n1_; have HB := n2_; clear n0_ n1_ n2_)))
    go_ret
    exact ⟨rfl, HB.out⟩
  · have h1 : (1048576 : Int) < (s.size : Int) := by omega
    go_enter Try.func11, Try.ntmps11
    go_wp2
    go_ret
    exact ⟨rfl, Below.refl _ _⟩
end Go.Proofs.Ytmjomedmpokbcaa.H
