/- Searches along a list. Conditions: none. -/
import Derived.Test.YtaheikponfmdiaaKHoldP
import Derived.Test.YtaheikponfmdiaaKTable4
namespace Go.Proofs.Ytaheikponfmdiaa.M
theorem findSome_next {α β : Type} {f : α → Option β} {l : List α} {i : Nat} {a : α} (h : (l.take i).findSome? f = none) (ha : l[i]? = some a) (hb : f a = none) : (l.take (i + 1)).findSome? f = none := by
  rw [List.take_add_one, ha, List.findSome?_append, h]
  simp [hb]
theorem findSome_at {α β : Type} {f : α → Option β} {l : List α} {i : Nat} {a : α} {b : β} (h : (l.take i).findSome? f = none) (ha : l[i]? = some a) (hb : f a = some b) : l.findSome? f = some b := by
  have e : l = l.take i ++ a :: l.drop (i + 1) := by
    obtain ⟨h1, h2⟩ := List.getElem?_eq_some_iff.1 ha
    rw [← h2, ← List.drop_eq_getElem_cons h1, List.take_append_drop]
  rw [e, List.findSome?_append, h]
  simp [hb]
theorem rowQ_next {d n : Nat} {p : Bool} {x : Ts} {v u : ByteArray} {ws : List ByteArray} {j : Nat} (h : rowQ d n p x v (ws.take j) = none) (hu : ws[j]? = some u) (hv : v.size + u.size ≤ n → verdict d p x v u = none) : rowQ d n p x v (ws.take (j + 1)) = none := by
  unfold rowQ at *
  refine findSome_next h hu ?_
  by_cases hn : v.size + u.size ≤ n
  · rw [if_pos hn]; exact hv hn
  · rw [if_neg hn]
theorem rowQ_some {d n : Nat} {p : Bool} {x : Ts} {v u : ByteArray} {ws : List ByteArray} {j : Nat} {r : Bool × Int} (h : rowQ d n p x v (ws.take j) = none) (hu : ws[j]? = some u) (hn : v.size + u.size ≤ n) (hv : verdict d p x v u = some r) : rowQ d n p x v ws = some r := by
  unfold rowQ at *
  refine findSome_at h hu ?_
  rw [if_pos hn]; exact hv
theorem rowP_next {d n : Nat} {p : Bool} {x : Ts} {v u : ByteArray} {ws : List ByteArray} {j : Nat} (h : rowP d n p x v (ws.take j) = none) (hu : ws[j]? = some u) (hv : verdict d p x v u = none) : rowP d n p x v (ws.take (j + 1)) = none := by
  unfold rowP at *
  exact findSome_next h hu hv
theorem rowP_some {d n : Nat} {p : Bool} {x : Ts} {v u : ByteArray} {ws : List ByteArray} {j : Nat} {r : Bool × Int} (h : rowP d n p x v (ws.take j) = none) (hu : ws[j]? = some u) (hv : verdict d p x v u = some r) : rowP d n p x v ws = some r := by
  unfold rowP at *
  exact findSome_at h hu hv
theorem words1_le {d m : Nat} (hd : d ≤ 3) (hm : m ≤ 5) : (words1 d m).length ≤ 10000 := by
  unfold words1
  rw [List.length_drop]
  have h1 : (allW d m).length = ahead d (m + 1) := allU_length d (m + 1)
  have h2 := ahead_le hd (k := m + 1) (by omega)
  omega
end Go.Proofs.Ytaheikponfmdiaa.M
