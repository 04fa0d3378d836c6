/- The seat's facts that read the dump's head. -/
import Derived.Test.YtibjkjhpfmmjoaaRows
import Derived.KernelRfl
import Derived.JoinedOf
namespace Go.Proofs.Ytibjkjhpfmmjoaa.H
set_option maxRecDepth 100000
theorem word_cut : ∀ (w r : List Char), (w.all fun c => c != Char.ofNat 32) = true → wordsSigns (w ++ Char.ofNat 32 :: r) = w :: wordsSigns r
  | [], r, _ => by simp [wordsSigns]
  | c :: w, r, h => by
    simp only [List.all_cons, Bool.and_eq_true, bne_iff_ne] at h
    have e := word_cut w r h.2
    rw [List.cons_append, wordsSigns]
    · rw [e]
    · exact h.1
/-- The head's letters, behind the first three words. -/
def headTail : List Char := [Char.ofNat 97, Char.ofNat 116, Char.ofNat 32, Char.ofNat 108, Char.ofNat 111, Char.ofNat 111, Char.ofNat 112, Char.ofNat 46, Char.ofNat 101, Char.ofNat 120, Char.ofNat 97, Char.ofNat 109, Char.ofNat 112, Char.ofNat 108, Char.ofNat 101, Char.ofNat 47, Char.ofNat 103, Char.ofNat 48, Char.ofNat 49, Char.ofNat 50, Char.ofNat 54, Char.ofNat 48, Char.ofNat 47, Char.ofNat 108, Char.ofNat 97, Char.ofNat 119, Char.ofNat 115, Char.ofNat 46, Char.ofNat 70, Char.ofNat 110, Char.ofNat 82, Char.ofNat 101, Char.ofNat 118, Char.ofNat 101, Char.ofNat 114, Char.ofNat 115, Char.ofNat 97, Char.ofNat 108, Char.ofNat 115, Char.ofNat 32, Char.ofNat 108, Char.ofNat 111, Char.ofNat 111, Char.ofNat 112, Char.ofNat 46, Char.ofNat 101, Char.ofNat 120, Char.ofNat 97, Char.ofNat 109, Char.ofNat 112, Char.ofNat 108, Char.ofNat 101, Char.ofNat 47, Char.ofNat 103, Char.ofNat 48, Char.ofNat 49, Char.ofNat 50, Char.ofNat 54, Char.ofNat 48, Char.ofNat 47, Char.ofNat 108, Char.ofNat 97, Char.ofNat 119, Char.ofNat 115, Char.ofNat 46, Char.ofNat 70, Char.ofNat 110, Char.ofNat 83, Char.ofNat 101, Char.ofNat 114, Char.ofNat 105, Char.ofNat 101, Char.ofNat 115, Char.ofNat 80, Char.ofNat 114, Char.ofNat 111, Char.ofNat 100, Char.ofNat 117, Char.ofNat 99, Char.ofNat 116, Char.ofNat 115, Char.ofNat 32, Char.ofNat 108, Char.ofNat 111, Char.ofNat 111, Char.ofNat 112, Char.ofNat 46, Char.ofNat 101, Char.ofNat 120, Char.ofNat 97, Char.ofNat 109, Char.ofNat 112, Char.ofNat 108, Char.ofNat 101, Char.ofNat 47, Char.ofNat 103, Char.ofNat 48, Char.ofNat 49, Char.ofNat 50, Char.ofNat 54, Char.ofNat 48, Char.ofNat 47, Char.ofNat 108, Char.ofNat 97, Char.ofNat 119, Char.ofNat 115, Char.ofNat 46, Char.ofNat 70, Char.ofNat 110, Char.ofNat 83, Char.ofNat 104, Char.ofNat 117, Char.ofNat 102, Char.ofNat 102, Char.ofNat 108, Char.ofNat 101, Char.ofNat 115]
def headSum : List Char := [Char.ofNat 100, Char.ofNat 51, Char.ofNat 50, Char.ofNat 49, Char.ofNat 53, Char.ofNat 54, Char.ofNat 49, Char.ofNat 57, Char.ofNat 57, Char.ofNat 99, Char.ofNat 53, Char.ofNat 53, Char.ofNat 51, Char.ofNat 49, Char.ofNat 97, Char.ofNat 53, Char.ofNat 52, Char.ofNat 56, Char.ofNat 48, Char.ofNat 51, Char.ofNat 57, Char.ofNat 98, Char.ofNat 98, Char.ofNat 48, Char.ofNat 98, Char.ofNat 55, Char.ofNat 57, Char.ofNat 97, Char.ofNat 49, Char.ofNat 100, Char.ofNat 48, Char.ofNat 55, Char.ofNat 100, Char.ofNat 57, Char.ofNat 54, Char.ofNat 51, Char.ofNat 50, Char.ofNat 100, Char.ofNat 100, Char.ofNat 56, Char.ofNat 102, Char.ofNat 99, Char.ofNat 52, Char.ofNat 102, Char.ofNat 49, Char.ofNat 49, Char.ofNat 57, Char.ofNat 57, Char.ofNat 98, Char.ofNat 48, Char.ofNat 56, Char.ofNat 101, Char.ofNat 49, Char.ofNat 99, Char.ofNat 49, Char.ofNat 97, Char.ofNat 52, Char.ofNat 99, Char.ofNat 49, Char.ofNat 57, Char.ofNat 102, Char.ofNat 51, Char.ofNat 54, Char.ofNat 97]
theorem headIs : Try.prog.initOrder = String.ofList ([Char.ofNat 104, Char.ofNat 97, Char.ofNat 114, Char.ofNat 110, Char.ofNat 101, Char.ofNat 115, Char.ofNat 115] ++ Char.ofNat 32 :: (headSum ++ Char.ofNat 32 :: ([Char.ofNat 99, Char.ofNat 117, Char.ofNat 116] ++ Char.ofNat 32 :: headTail))) := by kernel_rfl
theorem headWords {P : Program} {s t : List Char} (h : P.initOrder = String.ofList ([Char.ofNat 104, Char.ofNat 97, Char.ofNat 114, Char.ofNat 110, Char.ofNat 101, Char.ofNat 115, Char.ofNat 115] ++ Char.ofNat 32 :: (s ++ Char.ofNat 32 :: ([Char.ofNat 99, Char.ofNat 117, Char.ofNat 116] ++ Char.ofNat 32 :: t)))) (hs : (s.all fun c => c != Char.ofNat 32) = true) : ∃ ws, wordsSigns P.initOrder.toList = [Char.ofNat 104, Char.ofNat 97, Char.ofNat 114, Char.ofNat 110, Char.ofNat 101, Char.ofNat 115, Char.ofNat 115] :: s :: [Char.ofNat 99, Char.ofNat 117, Char.ofNat 116] :: ws := by
  rw [h, String.toList_ofList, word_cut _ _ (by kernel_rfl), word_cut _ _ hs, word_cut _ _ (by kernel_rfl)]
  exact ⟨_, rfl⟩
theorem behind (s : List Char) (ws : List (List Char)) (hs : isSumSigns s = true) : behindMainWord ([Char.ofNat 104, Char.ofNat 97, Char.ofNat 114, Char.ofNat 110, Char.ofNat 101, Char.ofNat 115, Char.ofNat 115] :: s :: [Char.ofNat 99, Char.ofNat 117, Char.ofNat 116] :: ws) = [Char.ofNat 99, Char.ofNat 117, Char.ofNat 116] :: ws := by
  unfold behindMainWord; dsimp only; rw [hs]; kernel_rfl
theorem lifts_of {P : Program} {ws s} (hs : isSumSigns s = true) (h : wordsSigns P.initOrder.toList = [Char.ofNat 104, Char.ofNat 97, Char.ofNat 114, Char.ofNat 110, Char.ofNat 101, Char.ofNat 115, Char.ofNat 115] :: s :: [Char.ofNat 99, Char.ofNat 117, Char.ofNat 116] :: ws) : P.headLifts = [] := by
  unfold Program.headLifts; rw [h, behind _ _ hs]; kernel_rfl
theorem lift_of {P : Program} {ws s} (hs : isSumSigns s = true) (h : wordsSigns P.initOrder.toList = [Char.ofNat 104, Char.ofNat 97, Char.ofNat 114, Char.ofNat 110, Char.ofNat 101, Char.ofNat 115, Char.ofNat 115] :: s :: [Char.ofNat 99, Char.ofNat 117, Char.ofNat 116] :: ws) : P.liftsFinal = false := by
  unfold Program.liftsFinal; rw [lifts_of hs h, h, behind _ _ hs]; kernel_rfl
theorem make_of {P : Program} {ws s} (hs : isSumSigns s = true) (h : wordsSigns P.initOrder.toList = [Char.ofNat 104, Char.ofNat 97, Char.ofNat 114, Char.ofNat 110, Char.ofNat 101, Char.ofNat 115, Char.ofNat 115] :: s :: [Char.ofNat 99, Char.ofNat 117, Char.ofNat 116] :: ws) : P.make = some .cut := by
  unfold Program.make; rw [lifts_of hs h, h, behind _ _ hs]; kernel_rfl
theorem may_of {P : Program} {ws s} (hs : isSumSigns s = true) (h : wordsSigns P.initOrder.toList = [Char.ofNat 104, Char.ofNat 97, Char.ofNat 114, Char.ofNat 110, Char.ofNat 101, Char.ofNat 115, Char.ofNat 115] :: s :: [Char.ofNat 99, Char.ofNat 117, Char.ofNat 116] :: ws) (k1 : P.laysLater = false) (k2 : P.bearsReflect = false) (k3 : P.doorFits [] = true) : P.mayEnter = true := by
  have e : stripLifts liftWords ([Char.ofNat 99, Char.ofNat 117, Char.ofNat 116] :: ws) = ([], [Char.ofNat 99, Char.ofNat 117, Char.ofNat 116] :: ws) := by kernel_rfl
  unfold Program.mayEnter; rw [h, behind _ _ hs]; dsimp only; rw [e]; dsimp only; rw [k1, k2, k3]; show (_ : Bool) = true; kernel_rfl
theorem sumE : isSumSigns headSum = true := by kernel_rfl
theorem sumN : (headSum.all fun c => c != Char.ofNat 32) = true := by kernel_rfl
theorem headList : ∃ ws, wordsSigns Try.prog.initOrder.toList = [Char.ofNat 104, Char.ofNat 97, Char.ofNat 114, Char.ofNat 110, Char.ofNat 101, Char.ofNat 115, Char.ofNat 115] :: headSum :: [Char.ofNat 99, Char.ofNat 117, Char.ofNat 116] :: ws := headWords headIs sumN
theorem laysE : Program.laysLater Try.prog = false := by kernel_rfl
theorem bearsE : Program.bearsReflect Try.prog = false := by kernel_rfl
theorem doorE : Program.doorFits Try.prog [] = true := by kernel_rfl
theorem mayE : Program.mayEnter Try.prog = true := headList.elim fun _ h => may_of sumE h laysE bearsE doorE
theorem liftE : Program.liftsFinal Try.prog = false := headList.elim fun _ h => lift_of sumE h
theorem makeE : Program.make Try.prog = some .cut := headList.elim fun _ h => make_of sumE h
end Go.Proofs.Ytibjkjhpfmmjoaa.H
