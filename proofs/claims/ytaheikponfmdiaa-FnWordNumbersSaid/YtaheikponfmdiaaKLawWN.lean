/- The law FnWordNumbers: its call returns true. Conditions: a code that can be read. -/
import Derived.Test.YtaheikponfmdiaaKNumW
import Derived.Test.YtaheikponfmdiaaKDraw5
namespace Go.Proofs.Ytaheikponfmdiaa.H
open Go.RowKit Go.Proofs.YtaheikponfmdiaaW.PrintWords Go.Proofs.YtaheikponfmdiaaW.PrintLast Go.Proofs.YtaheikponfmdiaaW.PrintMore Go.Proofs.Ytaheikponfmdiaa.M
set_option linter.unusedVariables false
set_option linter.unusedSimpArgs false
set_option maxRecDepth 100000
theorem lawBig (A : Option Addr) (c n : Nat) (w : World) : Calls Try.prog 34 #[.slice A n c] w fun e w' => e = .returned (.bool (decide (4096 < n))) ∧ Below w.heap.size w w' := by
  have HS := Aside0.mk (Sep.refl w)
  have hd : (decide ((4096 : Int) < (n : Int))) = decide (4096 < n) := decide_eq_decide.2 (by omega)
  have HD := Aside0.mk hd
  clear hd
  go_enter Try.func34, Try.ntmps34
  go_wp2
  go_ret
  exact ⟨ret_bool (by first | exact HD.out | simp), HS.out.below⟩
theorem cell_off {w : World} {ad : Addr} {i : Nat} {v : Value} (h : w.cell? (ad.add (i + 1)) = some v) : w.cell? ⟨ad.block, ad.off + (i + 1), none⟩ = some v := h
set_option maxHeartbeats 16000000 in
theorem lawFnWordNumbers (A : Option Addr) (c : Nat) (xs : List Int) (w : World) (hr : (Kd.int .u8).C w A xs.length xs) (hxb : ∀ x ∈ xs, 0 ≤ x ∧ x < 256) :
    Calls Try.prog 10 #[.slice A xs.length c] w fun e w' => e = .returned (.bool true) ∧ Below w.heap.size w w' := by
  have HS := Aside0.mk (Sep.refl w)
  have HG := Aside0.mk (fun X => lawBig A c xs.length X)
  by_cases hbig : 4096 < xs.length
  · rw [decide_eq_true hbig] at HG
    clear hr hxb
    go_enter Try.func10, Try.ntmps10
    go_wp2_with (first | (go_at_call 34; refine (HG.out _).mono ?_; rintro e_ w1 ⟨rfl, hb⟩; replace HS := sB HS hb; clear hb))
    go_ret
    exact ⟨rfl, HS.out.below⟩
  · rw [decide_eq_false hbig] at HG
    have HX := Aside0.mk (Bytes.mk hr hxb (by omega))
    clear hr hxb hbig
    go_enter Try.func10, Try.ntmps10
    go_wp2_with (first | (go_at_call 34; refine (HG.out _).mono ?_; rintro e_ w1 ⟨rfl, hb⟩; replace HS := sB HS hb; clear hb) | (go_at_call 35; refine (specDrawWordOfNumber A c xs _ (HX.out.old HS.out)).mono ?_; rintro e_ w1 ⟨d, k, rfl, hk, hb⟩; replace HS := sB HS hb; clear hb) | (go_at_call 36; refine (implWordOfNumber d k _).mono ?_; rintro e_ w1 ⟨rfl, hb⟩; replace HS := sB HS hb; clear hb) | (go_at_call 37; refine (specWordOfNumber d k _ hk).mono ?_; rintro e_ w1 ⟨rfl, hb⟩; replace HS := sB HS hb; clear hb; refine Hid.out ?_))
    refine Lib.hid ?_
    have HBK := Aside0.mk (fun h => won_back (d := d) (k := k) h)
    have hsz := won_size d k
    obtain ⟨r, hr⟩ : ∃ r, r = wonR d k := ⟨_, rfl⟩
    rw [← hr] at HBK hsz ⊢
    clear hr
    obtain ⟨s, e⟩ := r
    by_cases h0 : e = 0
    · have hsn : s.size ≤ 5 := hsz
      subst h0
      have HNB := Aside0.mk (fun W => (HBK.out rfl) ▸ implNumberOfWord d s W (by omega))
      clear hsz HBK
      go_wp2_with (first | (go_at_call 38; refine (HNB.out _).mono ?_; rintro e_ w1 ⟨rfl, hb⟩; replace HS := sB HS hb; clear hb) | (go_at_call 39; refine (specDrawNumberOfWord A c xs _ (HX.out.old HS.out)).mono ?_; rintro e_ w1 ⟨d2, v2, rfl, hv2, hb⟩; replace HS := sB HS hb; clear hb; refine Hid.out ?_))
      refine Lib.hid ?_
      go_wp2_with (first | (go_at_call 38; refine (implNumberOfWord d2 v2 _ (by omega)).mono ?_; rintro e_ w1 ⟨rfl, hb⟩; replace HS := sB HS hb; clear hb) | (go_at_call 40; refine (specNumberOfWord d2 v2 _ (by omega)).mono ?_; rintro e_ w1 ⟨rfl, hb⟩; replace HS := sB HS hb; clear hb) | (go_at_call 41; refine (specDrawWordsOf A c xs _ (HX.out.old HS.out)).mono ?_; rintro e_ w1 ⟨f, n, rfl, hb⟩; replace HS := sB HS hb; clear hb) | (go_at_call 42; refine (implWordsOf f n _).mono ?_; rintro e_ w1 ⟨B1, b1, rfl, hs⟩; replace HS := sN1 HS hs; clear hs) | (go_at_call 43; refine (specWordsOf f n _).mono ?_; rintro e_ w1 ⟨B2, b2, rfl, hs⟩; replace HS := sN1 HS hs; clear hs) | (go_at_call 44; refine (lawWords5 B1 B2 b1 b2 (woR f n).1 _ (HS.out.reads 1 rfl) (HS.out.reads 0 rfl)).mono ?_; rintro e_ w1 ⟨rfl, hb⟩; replace HS := sB HS hb; clear hb; refine Hid.out ?_))
      refine Lib.hid ?_
      have HNX := Aside0.mk (fun (i : Nat) (s t : ByteArray) (h1 : (woR f n).1[i]? = some s) (h2 : (woR f n).1[i + 1]? = some t) => wo_next h1 h2)
      have HAT := Aside0.mk (fun (i : Nat) (s : ByteArray) (h1 : (woR f n).1[i]? = some s) => wo_at h1)
      obtain ⟨ws, hws⟩ : ∃ ws, ws = woR f n := ⟨_, rfl⟩
      rw [← hws] at HNX HAT HS ⊢
      clear hws
      obtain ⟨l, e2⟩ := ws
      have hl9 : l.length ≤ 9223372036854775807 := Kd.C_max (HS.out.reads 1 rfl)
      go_wp2
      go_loopw [23] (fun v w' => ∃ i : Nat, v = .int .i64 ((i + 1 : Nat) : Int) ∧ i ≤ l.length ∧ Aside0 (Mod w w' No [rowS B2 b2 l, rowS B1 b1 l])) (fun v _ => l.length + 1 - (intOf v).toNat)
      case atStart => exact ⟨0, rfl, Nat.zero_le _, HS⟩
      case round =>
        clear HS
        obtain ⟨i, rfl, hi, HS⟩ := hrel
        by_cases hlt : i + 1 < l.length
        · obtain ⟨s1, hs1⟩ : ∃ s, l[i]? = some s := ⟨_, List.getElem?_eq_getElem (by omega)⟩
          obtain ⟨s2, hs2⟩ : ∃ s, l[i + 1]? = some s := ⟨_, List.getElem?_eq_getElem hlt⟩
          obtain ⟨q1, q2, q3⟩ := HNX.out i s1 s2 hs1 hs2
          obtain ⟨z1, y1, y2⟩ := HAT.out i s1 hs1
          obtain ⟨z2, _, _⟩ := HAT.out (i + 1) s2 hs2
          have HE1 := Aside0.mk hs1
          have HE2 := Aside0.mk hs2
          have HN1 := Aside0.mk (fun W => implNumberOfWord f s1 W (by omega))
          have HN2 := Aside0.mk (fun W => implNumberOfWord f s2 W (by omega))
          rw [q1] at HN1
          rw [q2, q3] at HN2
          obtain ⟨p, hp⟩ : ∃ p, p = (nowR f s1).1 := ⟨_, rfl⟩
          rw [← hp] at HN1 HN2 y1 y2
          clear hp hs1 hs2 q1 q2 q3
          obtain ⟨ad, ea, h_⟩ := str_at (HS.out.reads 1 rfl) 0 (by omega)
          clear h_
          cases ea
          have f1_ := HS.out.sy 1 rfl HE1.out
          have tk1_ : True := trivial
          go_wp2_with (first | (go_at_call 38; clear tk1_; refine (HN1.out _).mono ?_; rintro e_ w1 ⟨rfl, hb⟩; replace HS := sB HS hb; clear hb f1_; have f1_ := cell_off (HS.out.sy 1 rfl HE2.out)) | (go_at_call 38; refine (HN2.out _).mono ?_; rintro e_ w1 ⟨rfl, hb⟩; replace HS := sB HS hb; clear hb f1_))
          go_roundw
          case rel => exact ⟨i + 1, by go_num, by omega, HS⟩
          case measure => simp [intOf]; omega
        · have hlt2 : ¬ (((i + 1 : Nat) : Int) < (l.length : Int)) := by omega
          go_wp2
          go_ret
          exact ⟨rfl, (HS.out.sel [] (by decide)).below⟩
    · have he : (e == 0) = false := by simpa using h0
      clear h0 hsz HBK
      go_wp2_with (first | (go_at_call 39; refine (specDrawNumberOfWord A c xs _ (HX.out.old HS.out)).mono ?_; rintro e_ w1 ⟨d2, v2, rfl, hv2, hb⟩; replace HS := sB HS hb; clear hb; refine Hid.out ?_))
      refine Lib.hid ?_
      go_wp2_with (first | (go_at_call 38; refine (implNumberOfWord d2 v2 _ (by omega)).mono ?_; rintro e_ w1 ⟨rfl, hb⟩; replace HS := sB HS hb; clear hb) | (go_at_call 40; refine (specNumberOfWord d2 v2 _ (by omega)).mono ?_; rintro e_ w1 ⟨rfl, hb⟩; replace HS := sB HS hb; clear hb) | (go_at_call 41; refine (specDrawWordsOf A c xs _ (HX.out.old HS.out)).mono ?_; rintro e_ w1 ⟨f, n, rfl, hb⟩; replace HS := sB HS hb; clear hb) | (go_at_call 42; refine (implWordsOf f n _).mono ?_; rintro e_ w1 ⟨B1, b1, rfl, hs⟩; replace HS := sN1 HS hs; clear hs) | (go_at_call 43; refine (specWordsOf f n _).mono ?_; rintro e_ w1 ⟨B2, b2, rfl, hs⟩; replace HS := sN1 HS hs; clear hs) | (go_at_call 44; refine (lawWords5 B1 B2 b1 b2 (woR f n).1 _ (HS.out.reads 1 rfl) (HS.out.reads 0 rfl)).mono ?_; rintro e_ w1 ⟨rfl, hb⟩; replace HS := sB HS hb; clear hb; refine Hid.out ?_))
      refine Lib.hid ?_
      have HNX := Aside0.mk (fun (i : Nat) (s t : ByteArray) (h1 : (woR f n).1[i]? = some s) (h2 : (woR f n).1[i + 1]? = some t) => wo_next h1 h2)
      have HAT := Aside0.mk (fun (i : Nat) (s : ByteArray) (h1 : (woR f n).1[i]? = some s) => wo_at h1)
      obtain ⟨ws, hws⟩ : ∃ ws, ws = woR f n := ⟨_, rfl⟩
      rw [← hws] at HNX HAT HS ⊢
      clear hws
      obtain ⟨l, e2⟩ := ws
      have hl9 : l.length ≤ 9223372036854775807 := Kd.C_max (HS.out.reads 1 rfl)
      go_wp2
      go_loopw [23] (fun v w' => ∃ i : Nat, v = .int .i64 ((i + 1 : Nat) : Int) ∧ i ≤ l.length ∧ Aside0 (Mod w w' No [rowS B2 b2 l, rowS B1 b1 l])) (fun v _ => l.length + 1 - (intOf v).toNat)
      case atStart => exact ⟨0, rfl, Nat.zero_le _, HS⟩
      case round =>
        clear HS
        obtain ⟨i, rfl, hi, HS⟩ := hrel
        by_cases hlt : i + 1 < l.length
        · obtain ⟨s1, hs1⟩ : ∃ s, l[i]? = some s := ⟨_, List.getElem?_eq_getElem (by omega)⟩
          obtain ⟨s2, hs2⟩ : ∃ s, l[i + 1]? = some s := ⟨_, List.getElem?_eq_getElem hlt⟩
          obtain ⟨q1, q2, q3⟩ := HNX.out i s1 s2 hs1 hs2
          obtain ⟨z1, y1, y2⟩ := HAT.out i s1 hs1
          obtain ⟨z2, _, _⟩ := HAT.out (i + 1) s2 hs2
          have HE1 := Aside0.mk hs1
          have HE2 := Aside0.mk hs2
          have HN1 := Aside0.mk (fun W => implNumberOfWord f s1 W (by omega))
          have HN2 := Aside0.mk (fun W => implNumberOfWord f s2 W (by omega))
          rw [q1] at HN1
          rw [q2, q3] at HN2
          obtain ⟨p, hp⟩ : ∃ p, p = (nowR f s1).1 := ⟨_, rfl⟩
          rw [← hp] at HN1 HN2 y1 y2
          clear hp hs1 hs2 q1 q2 q3
          obtain ⟨ad, ea, h_⟩ := str_at (HS.out.reads 1 rfl) 0 (by omega)
          clear h_
          cases ea
          have f1_ := HS.out.sy 1 rfl HE1.out
          have tk2_ : True := trivial
          go_wp2_with (first | (go_at_call 38; clear tk2_; refine (HN1.out _).mono ?_; rintro e_ w1 ⟨rfl, hb⟩; replace HS := sB HS hb; clear hb f1_; have f1_ := cell_off (HS.out.sy 1 rfl HE2.out)) | (go_at_call 38; refine (HN2.out _).mono ?_; rintro e_ w1 ⟨rfl, hb⟩; replace HS := sB HS hb; clear hb f1_))
          go_roundw
          case rel => exact ⟨i + 1, by go_num, by omega, HS⟩
          case measure => simp [intOf]; omega
        · have hlt2 : ¬ (((i + 1 : Nat) : Int) < (l.length : Int)) := by omega
          go_wp2
          go_ret
          exact ⟨rfl, (HS.out.sel [] (by decide)).below⟩
end Go.Proofs.Ytaheikponfmdiaa.H


