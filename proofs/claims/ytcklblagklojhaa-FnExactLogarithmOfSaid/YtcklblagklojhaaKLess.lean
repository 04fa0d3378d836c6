/- Tables less the unit. Conditions: the bounds that stand in each statement. -/
import Derived.Test.YtcklblagklojhaaKTabR
import Derived.Test.YtcklblagklojhaaKTab
namespace Go.Proofs.Ytcklblagklojhaa.M
theorem rel_mone {d n : Nat} {F : Tb} (h : Rel d n ((some unitT).bind fun x => scS x (-1, 1)) F) : Rel d n (some mone) F := by
  have h2 : Rel d n (scS unitT (-1, 1)) F := h
  rwa [mone_sc] at h2
theorem two_less (o : Option Ts) : two sumS o (some mone) = o.bind lessS := by cases o <;> rfl
end Go.Proofs.Ytcklblagklojhaa.M
namespace Go.Proofs.Ytcklblagklojhaa.H
open Go.RowKit Go.Proofs.YtcklblagklojhaaW.PrintWords Go.Proofs.YtcklblagklojhaaW.PrintLast Go.Proofs.YtcklblagklojhaaW.PrintMore Go.Proofs.Ytcklblagklojhaa.M
attribute [local go_sem] max2_int min2_int max_two min_two max_three min_three max_four min_four resQ
set_option linter.unusedVariables false
set_option linter.unusedSimpArgs false
set_option maxRecDepth 100000
set_option maxHeartbeats 8000000 in
theorem tabLess {w : World} {d n g v : Nat} {F : Tb} {o : Option Ts} (hl : lev d n = true) (h : TabI w g v d n F o) : Calls Try.prog 166 #[.pointer (some ⟨g, 0, none⟩)] w (RetT w d n (o.bind lessS)) := by
  have HL := Aside0.mk hl
  have H1 := Aside0.mk h
  have HS := Aside0.mk (Sep.refl w)
  clear hl h
  go_enter Try.func166, Try.ntmps166
  go_wp2_with (first | (go_at_call 115; refine (tabUnit HL.out (H1.out.old HS.out)).mono ?_; rintro e_ w1 ⟨gb, vb, Fb, rfl, hF, hQ, hs⟩; replace HS := sN2 HS hs; clear hs; have HFb := Aside0.mk hF; have HQb := Aside0.mk hQ; clear hF hQ) | (go_at_call 104; refine (implWhole (-1) _).mono ?_; rintro e_ w1 ⟨rfl, hb⟩; replace HS := sB HS hb; clear hb) | (go_at_call 140; refine (tabScaled HL.out ⟨HFb.out, HQb.out, HS.out.at (i := 0) rfl, HS.out.at (i := 1) rfl⟩ (a := (-1, 1)) (by decide)).mono ?_; rintro e_ w1 ⟨gc, vc, Fc, rfl, hF, hQ, hs⟩; replace HS := sN2 HS hs; clear hs; have HFc := Aside0.mk hF; have HQc := Aside0.mk (rel_mone hQ); clear hF hQ) | (go_at_call 146; refine (tabSum HL.out (H1.out.old HS.out) ⟨HFc.out, HQc.out, HS.out.at (i := 0) rfl, HS.out.at (i := 1) rfl⟩).mono ?_; rintro e_ w1 ⟨gd, vd, Fd, rfl, hF, hQ, hs⟩; replace HS := sN2 HS hs; clear hs; have HFd := Aside0.mk hF; have HQd := Aside0.mk hQ; clear hF hQ))
  go_ret
  exact ⟨gd, vd, Fd, rfl, HFd.out, two_less _ ▸ HQd.out, HS.out.sel [0, 1] (by decide)⟩
end Go.Proofs.Ytcklblagklojhaa.H

