/- What IsGroupLike and IsLieSeries answer. Conditions: none. -/
import Derived.Test.YtaheikponfmdiaaKHoldL
namespace Go.Proofs.Ytaheikponfmdiaa.M
def holdR (B : Bool) (d n : Int) (l : Ts) : Bool × Int := if isS d n l = true then if co l eps = ((if B = true then 1 else 0), 1) then holdS d.toNat n.toNat B l else (false, 0) else (false, 1)
theorem words1_at {d m i : Nat} {s : ByteArray} (h : (allW d m)[i + 1]? = some s) : (words1 d m)[i]? = some s := by
  unfold words1
  rw [List.getElem?_drop, Nat.add_comm]
  exact h
theorem words1_length (d m : Nat) : (words1 d m).length = (allW d m).length - 1 := by unfold words1; rw [List.length_drop]
theorem allW_two {d m : Nat} (hd : 1 ≤ d) (hm : 1 ≤ m) : 2 ≤ (allW d m).length := by
  have h1 : (allW d m).length = ahead d (m + 1) := allU_length d (m + 1)
  have h2 := ahead_mono d (i := 2) (j := m + 1) (by omega)
  have h3 : ahead d 2 = 1 + d := by simp [ahead]
  omega
theorem allW_le {d m : Nat} (hd : d ≤ 3) (hm : m ≤ 5) : (allW d m).length ≤ 10000 := by
  rw [show (allW d m).length = ahead d (m + 1) from allU_length d (m + 1)]
  exact ahead_le hd (by omega)
theorem allW_one (d : Nat) : (allW d 0).length = 1 := by
  rw [show (allW d 0).length = ahead d 1 from allU_length d 1]
  simp [ahead]
end Go.Proofs.Ytaheikponfmdiaa.M
