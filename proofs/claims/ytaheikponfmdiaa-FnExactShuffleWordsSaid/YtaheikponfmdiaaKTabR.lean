/- Tables that go with rows: what the program's steps on tables return. Conditions: the bounds that stand in each statement. -/
import Derived.Test.YtaheikponfmdiaaKTable6
import Derived.Test.YtaheikponfmdiaaKBasic
import Derived.Test.YtaheikponfmdiaaKTab
import Derived.Test.YtaheikponfmdiaaKTimes
namespace Go.Proofs.Ytaheikponfmdiaa.M
theorem rel_self {d n : Nat} {l : Ts} (h : isTs d n l = true) : Rel d n (some l) (co l, false) := .inr ⟨l, rfl, rfl, h, fun _ _ _ => rfl⟩
theorem rel_zero (d n : Nat) : Rel d n (some []) ((fun _ => (0, 1)), false) := .inr ⟨[], rfl, rfl, isTs_nil d n, fun w _ _ => co_nil w⟩
theorem unit_co : co unitT = upd (fun _ => (0, 1)) eps (1, 1) := by
  funext w
  rw [co_cons]
  unfold upd
  by_cases h : w = eps
  · subst h; rfl
  · rw [if_neg (fun e => h e.symm), if_neg h]; rfl
end Go.Proofs.Ytaheikponfmdiaa.M
namespace Go.Proofs.Ytaheikponfmdiaa.H
open Go.RowKit Go.Proofs.YtaheikponfmdiaaW.PrintWords Go.Proofs.YtaheikponfmdiaaW.PrintLast Go.Proofs.YtaheikponfmdiaaW.PrintMore Go.Proofs.Ytaheikponfmdiaa.M
attribute [local go_sem] max2_int min2_int max_two min_two max_three min_three max_four min_four
set_option linter.unusedVariables false
set_option linter.unusedSimpArgs false
set_option maxRecDepth 100000
/-- A new table that goes with a row (none: something has not fitted). -/
def RetT (w : World) (d n : Nat) (o : Option Ts) (e : Ending) (w' : World) : Prop := ∃ g v F, e = .returned (.pointer (some ⟨g, 0, none⟩)) ∧ good F.1 ∧ Rel d n o F ∧ Sep w w' [tS g v d n (nW d n) F.2, tV v d n F.1]
/-- A table that goes with a row. -/
def TabI (W : World) (g v d n : Nat) (F : Tb) (o : Option Ts) : Prop := good F.1 ∧ Rel d n o F ∧ (tS g v d n (nW d n) F.2).I W ∧ (tV v d n F.1).I W
variable {w : World} {d n g v g1 v1 g2 v2 : Nat} {F F1 F2 : Tb} {o o1 o2 : Option Ts}
theorem lev9 (hl : lev d n = true) : d ≤ 9 := by have := lev_bd hl; omega
theorem tabOpen (A : Option Addr) (c : Nat) (l : Ts) (w : World) (hl : lev d n = true) (hr : KT.C w A l.length l) (hts : isTs d n l = true) : Calls Try.prog 100 #[.agg #[.int .i64 (d : Int), .int .i64 (n : Int), .slice A l.length c]] w (RetT w d n (some l)) :=
  (implOpen d n A c l w hl hr hts).mono fun e w' h => by obtain ⟨g, v, he, hs⟩ := h; exact ⟨g, v, (co l, false), he, good_co hts, rel_self hts, hs⟩
theorem tabNew (hl : lev d n = true) (w : World) : Calls Try.prog 143 #[.int .i64 (d : Int), .int .i64 (n : Int)] w (RetT w d n (some [])) :=
  (implNew d n hl w).mono fun e w' h => by obtain ⟨g, v, he, hs⟩ := h; exact ⟨g, v, _, he, good_zero, rel_zero d n, hs⟩
theorem tabLike (hl : lev d n = true) (h : TabI w g v d n F o) : Calls Try.prog 165 #[.pointer (some ⟨g, 0, none⟩)] w (RetT w d n (some [])) :=
  (implLike g v d n (nW d n) F.2 w hl h.2.2.1).mono fun e w' h => by obtain ⟨g, v, he, hs⟩ := h; exact ⟨g, v, _, he, good_zero, rel_zero d n, hs⟩
theorem tabUnit (hl : lev d n = true) (h : TabI w g v d n F o) : Calls Try.prog 144 #[.pointer (some ⟨g, 0, none⟩)] w (RetT w d n (some unitT)) :=
  (implUnit g v d n (nW d n) F.2 w hl h.2.2.1).mono fun e w' h => by obtain ⟨g, v, he, hs⟩ := h; exact ⟨g, v, (co unitT, false), he, good_co (unit_ts d n), rel_self (unit_ts d n), by rw [unit_co]; exact hs⟩
theorem tabSum (hl : lev d n = true) (h1 : TabI w g1 v1 d n F1 o1) (h2 : TabI w g2 v2 d n F2 o2) : Calls Try.prog 151 #[.pointer (some ⟨g1, 0, none⟩), .pointer (some ⟨g2, 0, none⟩)] w (RetT w d n (two sumS o1 o2)) :=
  (implSum g1 v1 g2 v2 d n F1.2 F2.2 F1.1 F2.1 w hl h1.2.2.1 h1.2.2.2 h2.2.2.1 h2.2.2.2 h1.1 h2.1).mono fun e w' h => by obtain ⟨g, v, he, hs⟩ := h; exact ⟨g, v, _, he, mapT_good (fun s c h => add_fr h) _ _, sum_relT (lev9 hl) h1.2.1 h2.2.1, hs⟩
theorem tabScaled (hl : lev d n = true) (h : TabI w g v d n F o) {a : Fr} (ha : fr a = true) : Calls Try.prog 181 #[.pointer (some ⟨g, 0, none⟩), .agg #[.int .i64 a.1, .int .i64 a.2]] w (RetT w d n (o.bind fun x => scS x a)) :=
  (implScaled g v d n F.2 F.1 a w hl h.2.2.1 h.2.2.2 h.1 ha).mono fun e w' hh => by obtain ⟨g, v, he, hs⟩ := hh; exact ⟨g, v, _, he, mapT_good (fun s c h => mul_fr h) _ _, scale_relT (lev9 hl) h.2.1 ha, hs⟩
theorem tabTold (hl : lev d n = true) (h : TabI w g v d n F o) : Calls Try.prog 89 #[.pointer (some ⟨g, 0, none⟩)] w (RetS w (resO d n o)) :=
  (Rel.told (lev9 hl) h.1 h.2.1) ▸ implTold g v d n F.2 F.1 w hl h.2.2.1 h.2.2.2
theorem TabI.old {w W : World} {d n g v : Nat} {F : Tb} {o : Option Ts} {L : List As} (h : TabI w g v d n F o) (HS : Mod w W No L) : TabI W g v d n F o := ⟨h.1, h.2.1, HS.oldI h.2.2.1, HS.oldI h.2.2.2⟩
end Go.Proofs.Ytaheikponfmdiaa.H
namespace Go.Proofs.Ytaheikponfmdiaa.H
open Go.RowKit Go.Proofs.YtaheikponfmdiaaW.PrintWords Go.Proofs.YtaheikponfmdiaaW.PrintLast Go.Proofs.YtaheikponfmdiaaW.PrintMore Go.Proofs.Ytaheikponfmdiaa.M
variable {w : World} {d n g1 v1 g2 v2 : Nat} {F1 F2 : Tb} {o1 o2 : Option Ts}
theorem tabTimes (hl : lev d n = true) (h1 : TabI w g1 v1 d n F1 o1) (h2 : TabI w g2 v2 d n F2 o2) : Calls Try.prog 137 #[.pointer (some ⟨g1, 0, none⟩), .pointer (some ⟨g2, 0, none⟩)] w (RetT w d n (two (mulS d n) o1 o2)) :=
  (implTimesTab g1 v1 g2 v2 d n F1.2 F2.2 F1.1 F2.1 w hl h1.2.2.1 h1.2.2.2 h2.2.2.1 h2.2.2.2 h1.1 h2.1).mono fun e w' h => by obtain ⟨g, v, he, hs⟩ := h; exact ⟨g, v, _, he, timesT_good, times_relT (lev9 hl) h1.2.1 h2.2.1, hs⟩
end Go.Proofs.Ytaheikponfmdiaa.H

