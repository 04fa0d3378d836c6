/- The law IsSeries: its call returns true. Conditions: those of an argument that can be read. -/
import Derived.Test.YtcklblagklojhaaPureTa
import Derived.Test.YtcklblagklojhaaHOpenS
import Derived.Test.YtcklblagklojhaaI0
import Derived.Test.YtcklblagklojhaaI2
import Derived.Test.YtcklblagklojhaaI3
namespace Go.Proofs.Ytcklblagklojhaa.Pure
open Go.RowKit Go.Proofs.Ytcklblagklojhaa.I Go.Proofs.YtcklblagklojhaaW.PrintWords Go.Proofs.YtcklblagklojhaaW.PrintLast
theorem isSeries_law (d n : Int) (l : List S136) (hm : l.length ≤ 9223372036854775807) (hw : ∀ t ∈ l, t.f0.size ≤ 9223372036854775807) : TS.Ev (fun k => laws_FnExactIsSeries.f k d n l) true := by
  obtain ⟨v, hs, hv⟩ := TA.sz_s d n l hm hw
  simp only [laws_FnExactIsSeries.f]
  refine TS.Ev.bind hs ?_
  by_cases c : v < 0
  · simp only [if_pos c]; exact TS.Ev.const true
  · obtain ⟨hl, hb⟩ := hv c
    have ht := TA.to_s d n l hl
    have he := TS.eq_s d n (l.map TA.cv) (by rw [List.length_map]; omega)
    have hu : (l.map TA.cv).map (fun x => ((x.f0, x.f1.f0, x.f1.f1) : M.Tm)) = l.map TA.un' := TA.un_cv l
    have hsp : spec_IsSeries.f d n (l.map TA.cv) = some (M.isS d n (l.map TA.un')) := by
      unfold spec_IsSeries.f spec_l01Is.f
      rw [hu, if_pos hb]; rfl
    have him : impl_IsSeries.f d n (l.map TA.cv) = some (M.isS d n (l.map TA.un')) := by
      unfold impl_IsSeries.f
      rw [hu, if_pos hb]
    simp only [if_neg c]
    refine TS.Ev.bind ht ?_
    simp only [hsp, Option.bind_some]
    refine TS.Ev.bind ht ?_
    simp only [him, Option.bind_some, bne_self_eq_false, Bool.false_eq_true, if_false]
    refine TS.Ev.bind ht ?_
    refine TS.Ev.bind he ?_
    simp only [if_true]
    exact TS.Ev.const true
end Go.Proofs.Ytcklblagklojhaa.Pure
namespace Go.Proofs.Ytcklblagklojhaa.H
open Go.RowKit Go.Proofs.YtcklblagklojhaaW.PrintWords Go.Proofs.YtcklblagklojhaaW.PrintLast Go.Proofs.YtcklblagklojhaaW.PrintMore Go.Proofs.Ytcklblagklojhaa.M
set_option linter.unusedVariables false
def mk' (x : Tm) : Go.Proofs.Ytcklblagklojhaa.I.S136 := ⟨x.1, ⟨x.2.1, x.2.2⟩⟩
theorem lawIsSeries (d n : Int) (A : Option Addr) (c : Nat) (l : Ts) (w : World) (hl : l.length ≤ c) (hm : ∀ t ∈ l, t.1.size ≤ 9223372036854775807) (hr : KT.C w A l.length l) :
    Calls Try.prog 5 #[.agg #[.int .i64 d, .int .i64 n, .slice A l.length c]] w fun e w' => e = .returned (.bool true) ∧ Below w.heap.size w w' := by
  obtain ⟨k, hk⟩ := (Pure.isSeries_law d n (l.map mk') (by rw [List.length_map]; exact Kd.C_max hr) (fun t ht => by obtain ⟨u, hu, rfl⟩ := List.mem_map.1 ht; exact hm u hu)).pick
  have h := Go.Proofs.Ytcklblagklojhaa.I.laws_FnExactIsSeries.calls k d n A c (l.map mk') true w (by rw [List.length_map]; exact (C_map (d1 := Go.Proofs.Ytcklblagklojhaa.I.k136) (d2 := KT) mk' rfl (fun _ _ => Iff.rfl)).2 hr) (by rw [List.length_map]; exact hl) hk
  rw [List.length_map] at h
  exact h
end Go.Proofs.Ytcklblagklojhaa.H
