/- The law TruncateSeries: its call returns true. Conditions: those of an argument that can be read. -/
import Derived.Test.YtcklblagklojhaaPureTs
import Derived.Test.YtcklblagklojhaaPureTa
import Derived.Test.YtcklblagklojhaaKBase
import Derived.Test.YtcklblagklojhaaT0
import Derived.Test.YtcklblagklojhaaT4
import Derived.Test.YtcklblagklojhaaT5
namespace Go.Proofs.Ytcklblagklojhaa.Pure
open Go.RowKit Go.Proofs.Ytcklblagklojhaa.T Go.Proofs.YtcklblagklojhaaW.PrintWords Go.Proofs.YtcklblagklojhaaW.PrintLast
set_option linter.unusedSimpArgs false
theorem truncateSeries_law (d n : Int) (l : List S136) (a1 : Int) (hm : l.length ≤ 9223372036854775807) (hw : ∀ t ∈ l, t.f0.size ≤ 9223372036854775807) : TS.Ev (fun k => laws_FnExactTruncateSeries.f k d n l a1) true := by
  obtain ⟨v, hs, _, hv⟩ := TA.sz_s d n l hm hw 1048576 (by omega) (by omega)
  simp only [laws_FnExactTruncateSeries.f]
  refine TS.Ev.bind hs ?_
  by_cases c : v < 0
  · simp only [if_pos c]; exact TS.Ev.const true
  · obtain ⟨hl, hb⟩ := hv c
    have ht := TA.to_s d n l hl
    have he := TS.eq_s d n (l.map TA.cv) (by rw [List.length_map]; omega)
    have hu : (l.map TA.cv).map (fun x => ((x.f0, x.f1.f0, x.f1.f1) : M.Tm)) = l.map TA.un' := TA.un_cv l
    obtain ⟨⟨s1, s2, y, s4⟩, hr⟩ : ∃ r, r = M.truncS d n (l.map TA.un') a1 := ⟨_, rfl⟩
    have hsp : spec_TruncateSeries.f d n (l.map TA.cv) a1 = some (s1, s2, y.map TA.mk, s4) := by
      unfold spec_TruncateSeries.f
      rw [hu, if_pos hb, ← hr]; rfl
    have him : impl_TruncateSeries.f d n (l.map TA.cv) a1 = some (s1, s2, y.map TA.mk, s4) := by
      unfold impl_TruncateSeries.f
      rw [hu, if_pos hb, ← hr]; rfl
    have hy : y.length ≤ 1048576 := by
      have h1 : y = (M.truncS d n (l.map TA.un') a1).2.2.1 := by rw [← hr]
      rw [h1]; unfold M.truncS
      have := List.length_filter_le (fun t : M.Tm => decide ((t.1.size : Int) ≤ a1)) (l.map TA.un')
      rw [List.length_map] at this
      split
      · split
        · show (List.filter _ _).length ≤ _; omega
        · simp
      · simp
    have he2 := TS.eq_s s1 s2 (y.map TA.mk) (by rw [List.length_map]; omega)
    obtain ⟨m1, L1, hm1, hh1, hp1, hL1⟩ := TS.marks d n (l.map TA.cv) (by rw [List.length_map]; omega)
    obtain ⟨m2, L2, hm2, hh2, hp2, hL2⟩ := TS.marks s1 s2 (y.map TA.mk) (by rw [List.length_map]; omega)
    clear hr hs hv
    repeat first
      | exact TS.Ev.const true
      | (refine TS.Ev.bind ht ?_; try dsimp only)
      | (refine TS.Ev.bind he ?_; try dsimp only)
      | (refine TS.Ev.bind he2 ?_; try dsimp only)
      | (refine TS.Ev.bind hm1 ?_; try dsimp only)
      | (refine TS.Ev.bind hm2 ?_; try dsimp only)
      | (refine TS.Ev.bind hh2 ?_; try dsimp only)
      | (refine TS.Ev.bind hh1 ?_; try dsimp only)
      | (simp only [hsp, him, c, Option.bind_some, if_true, bne_self_eq_false, Bool.false_eq_true, if_false, hp1, hp2])
      | (refine TS.Ev.succ ?_; simp only [laws_FnExactTruncateSeries.j0, laws_FnExactTruncateSeries.j1, laws_FnExactTruncateSeries.j2, Bool.false_eq_true, if_false])
end Go.Proofs.Ytcklblagklojhaa.Pure
namespace Go.Proofs.Ytcklblagklojhaa.H
open Go.RowKit Go.Proofs.YtcklblagklojhaaW.PrintWords Go.Proofs.YtcklblagklojhaaW.PrintLast Go.Proofs.YtcklblagklojhaaW.PrintMore Go.Proofs.Ytcklblagklojhaa.M
set_option linter.unusedVariables false
def mk' (x : Tm) : Go.Proofs.Ytcklblagklojhaa.T.S136 := ⟨x.1, ⟨x.2.1, x.2.2⟩⟩
theorem lawTruncateSeries (d n : Int) (A : Option Addr) (c : Nat) (l : Ts) (a1 : Int) (w : World) (hl : l.length ≤ c) (hm : ∀ t ∈ l, t.1.size ≤ 9223372036854775807) (hr : KT.C w A l.length l) (hw1 : (Lit.int .i64 a1).wf = true) :
    Calls Try.prog 7 #[.agg #[.int .i64 d, .int .i64 n, .slice A l.length c], .int .i64 a1] w fun e w' => e = .returned (.bool true) ∧ Below w.heap.size w w' := by
  obtain ⟨k, hk⟩ := (Pure.truncateSeries_law d n (l.map mk') a1 (by rw [List.length_map]; exact Kd.C_max hr) (fun t ht => by obtain ⟨u, hu, rfl⟩ := List.mem_map.1 ht; exact hm u hu)).pick
  have h := Go.Proofs.Ytcklblagklojhaa.T.laws_FnExactTruncateSeries.calls k d n A c (l.map mk') a1 true w (by rw [List.length_map]; exact (C_map (d1 := Go.Proofs.Ytcklblagklojhaa.T.k136) (d2 := KT) mk' rfl (fun _ _ => Iff.rfl)).2 hr) (by rw [List.length_map]; exact hl) hk
  rw [List.length_map] at h
  exact h
end Go.Proofs.Ytcklblagklojhaa.H
