/- The law IsPath: its call returns true. Conditions: those of an argument that can be read. -/
import Derived.Test.YtmjomedmpokbcaaHPath
import Derived.Test.YtmjomedmpokbcaaHOpen
import Derived.Test.YtmjomedmpokbcaaE3
import Derived.Test.YtmjomedmpokbcaaPureIsPath
namespace Go.Proofs.Ytmjomedmpokbcaa.H
open Go.RowKit Go.Proofs.YtmjomedmpokbcaaW.PrintWords Go.Proofs.YtmjomedmpokbcaaW.PrintLast Go.Proofs.YtmjomedmpokbcaaW.PrintMore Go.Proofs.Ytmjomedmpokbcaa.M
set_option linter.unusedVariables false
theorem lawIsPath (a : Int) (A : Option Addr) (c : Nat) (l : List (List Int)) (w : World) (hw : (Lit.int .i64 a).wf = true) (hl : l.length ≤ c) (hm : l.length ≤ 9223372036854775807) (hr : (Kd.slice 2 (Kd.int .i64)).C w A l.length l) :
    Calls Try.prog 10 #[.int .i64 a, .slice A l.length c] w fun e w' => e = .returned (.bool true) ∧ Below w.heap.size w w' :=
  E.laws_FnExactIsPath.calls 20000001 a A c l true w hr hl (Pure.isPath_law a l hm fun j hj => by
    obtain ⟨_, _, _, _, _, _, hc⟩ := at_rows hr j hj
    exact Kd.C_max hc)
end Go.Proofs.Ytmjomedmpokbcaa.H
