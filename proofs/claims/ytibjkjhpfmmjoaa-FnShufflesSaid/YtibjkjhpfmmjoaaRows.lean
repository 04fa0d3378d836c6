/-
  No cell of these rows narrows 'for every input' (looked for: loops, veiled, ifaces, maps, wideKeys, modest, calm, conditions, laid).
  DERIVED. THE GIVEN ROWS OF THIS SEAT. 3 by the template 'for every input the law returns true; each argument reads behind the call as it read before'; 0 by the template 'total and deterministic' (their statements: YtibjkjhpfmmjoaaTotals.lean).
  GIVEN WITH THE SEED: the statements are not yours to turn. If you find one false, say at which input.
  Laid BY PROGRAM, IN A SANDBOX (cutbox-rows.mjs): the forced cells as the released guide's own fill.sh prints them over the translation c8ecadf3c0994780… (all of the seat's roots in one cut). By AI agents, Wed Nov 11 2026. No macro, syntax, notation, axiom, sorry.
-/
import Derived.Test.YtibjkjhpfmmjoaaChecked
import GoSem.Claim
import GoSem.ClaimJoined
import GoSem.ClaimMapViews
import Derived.JoinedTies
import Derived.KernelRfl
namespace Go.Proofs.Ytibjkjhpfmmjoaa
/- THE CELL 'sum', in the pinned program and in every row, IS THE sha256 OF THE DUMP (.gsa) THAT YtibjkjhpfmmjoaaProg.lean LOADS. Nothing in Lean hashes anything: it is a label: what it is worth is what the hold of that sum in a sandbox is worth. -/
noncomputable def Try.pinned : Pinned := { name := "ytibjkjhpfmmjoaa", sum := "c8ecadf3c09947803b6041a89ef4c376c3290e255d0731120e017eb4eb41be88", checked := Try.checked }
namespace Rows
def none {H : Type} : Left H := { results := [], args := [] }

/-- 'laws.FnReversals': WHATEVER THE INPUT: true; the input reads as it did. -/
def fnReversalsSpec : ChangeSpec := { name := "fnReversals", fn := fun _ => fun
  | [d] => { results := [.lit (.bool true)], args := [d] }
  | _ => none }
def fnReversalsRow : OpenClaim := { program := "ytibjkjhpfmmjoaa", sum := "c8ecadf3c09947803b6041a89ef4c376c3290e255d0731120e017eb4eb41be88", func := "loop.example/g01260/laws.FnReversals", spec := "fnReversals", inPlace := ["internal/bytealg.abigen_runtime_cmpstring"], unfollowed := true, recurses := true, apart := false }
def FnReversalsSaid : Prop := fnReversalsRow.holds Try.pinned (OpenSpec.ofChange fnReversalsSpec)

/-- ITS FALSE NEIGHBOUR: 'it returns false'. Refute it at one input. -/
def fnReversalsWrong : ChangeSpec := { name := "fnReversals", fn := fun _ => fun
  | [d] => { results := [.lit (.bool false)], args := [d] }
  | _ => none }
def FnReversalsWrongFalsely : Prop := fnReversalsRow.holds Try.pinned (OpenSpec.ofChange fnReversalsWrong)

/-- 'laws.FnSeriesProducts': WHATEVER THE INPUT: true; the input reads as it did. -/
def fnSeriesProductsSpec : ChangeSpec := { name := "fnSeriesProducts", fn := fun _ => fun
  | [d] => { results := [.lit (.bool true)], args := [d] }
  | _ => none }
def fnSeriesProductsRow : OpenClaim := { program := "ytibjkjhpfmmjoaa", sum := "c8ecadf3c09947803b6041a89ef4c376c3290e255d0731120e017eb4eb41be88", func := "loop.example/g01260/laws.FnSeriesProducts", spec := "fnSeriesProducts", inPlace := ["internal/bytealg.abigen_runtime_cmpstring"], apart := false }
def FnSeriesProductsSaid : Prop := fnSeriesProductsRow.holds Try.pinned (OpenSpec.ofChange fnSeriesProductsSpec)

/-- ITS FALSE NEIGHBOUR: 'it returns false'. Refute it at one input. -/
def fnSeriesProductsWrong : ChangeSpec := { name := "fnSeriesProducts", fn := fun _ => fun
  | [d] => { results := [.lit (.bool false)], args := [d] }
  | _ => none }
def FnSeriesProductsWrongFalsely : Prop := fnSeriesProductsRow.holds Try.pinned (OpenSpec.ofChange fnSeriesProductsWrong)

/-- 'laws.FnShuffles': WHATEVER THE INPUT: true; the input reads as it did. -/
def fnShufflesSpec : ChangeSpec := { name := "fnShuffles", fn := fun _ => fun
  | [d] => { results := [.lit (.bool true)], args := [d] }
  | _ => none }
def fnShufflesRow : OpenClaim := { program := "ytibjkjhpfmmjoaa", sum := "c8ecadf3c09947803b6041a89ef4c376c3290e255d0731120e017eb4eb41be88", func := "loop.example/g01260/laws.FnShuffles", spec := "fnShuffles", inPlace := ["internal/bytealg.abigen_runtime_cmpstring"], unfollowed := true, recurses := true, apart := false }
def FnShufflesSaid : Prop := fnShufflesRow.holds Try.pinned (OpenSpec.ofChange fnShufflesSpec)

/-- ITS FALSE NEIGHBOUR: 'it returns false'. Refute it at one input. -/
def fnShufflesWrong : ChangeSpec := { name := "fnShuffles", fn := fun _ => fun
  | [d] => { results := [.lit (.bool false)], args := [d] }
  | _ => none }
def FnShufflesWrongFalsely : Prop := fnShufflesRow.holds Try.pinned (OpenSpec.ofChange fnShufflesWrong)

/- THE SECOND FORM. 'bulk': how many values and letters a reading holds, each counted each time it is reached (what is shared counts as often as it is met; a slice's spare places count too). A statement '..UptoSaid' is the law's where the arguments, and the package variables that the reading takes, are together of bulk at most 1048576: NARROWER than '..Said'. Prove '..Said' where nothing that the law and all that it calls make is longer than what came in: it says more and counts as full. Else prove '..UptoSaid'. A law counts once. -/
mutual
def uptoBulk {H : Type} : DataW H → Nat
  | .lit (.string bytes) => bytes.length + 1
  | .lit _ => 1
  | .nil => 1
  | .ptr d => uptoBulk d + 1
  | .slice elems spare => uptoBulkAll elems + uptoBulkAll spare + 1
  | .agg parts => uptoBulkAll parts + 1
  | .iface _ d => uptoBulk d + 1
  | .map entries => uptoBulkEntries entries + 1
  | .held _ => 1
def uptoBulkAll {H : Type} : List (DataW H) → Nat
  | [] => 0
  | d :: r => uptoBulk d + uptoBulkAll r
def uptoBulkEntries {H : Type} : List (Lit × DataW H) → Nat
  | [] => 0
  | x :: r => uptoBulkEntry x + uptoBulkEntries r
def uptoBulkEntry {H : Type} : Lit × DataW H → Nat
  | (.string bytes, d) => bytes.length + uptoBulk d + 1
  | (_, d) => uptoBulk d + 1
 end
def uptoSmall : (H : Type) → List (DataW H) → Bool := fun _ ds => decide (uptoBulkAll ds ≤ 1048576)
def OpenSpec.upto (s : _root_.Go.ChangeSpec) : _root_.Go.OpenSpec := { _root_.Go.OpenSpec.ofChange s with cond := some uptoSmall }

/-- 'laws.FnReversals', WHERE WHAT IT READS IS OF BULK AT MOST 1048576: true; the input reads as it did. -/
def fnReversalsUptoRow : OpenClaim := { program := "ytibjkjhpfmmjoaa", sum := "c8ecadf3c09947803b6041a89ef4c376c3290e255d0731120e017eb4eb41be88", func := "loop.example/g01260/laws.FnReversals", spec := "fnReversals", inPlace := ["internal/bytealg.abigen_runtime_cmpstring"], unfollowed := true, recurses := true, apart := false, narrowed := true }
def FnReversalsUptoSaid : Prop := fnReversalsUptoRow.holds Try.pinned (OpenSpec.upto fnReversalsSpec)

/-- 'laws.FnSeriesProducts', WHERE WHAT IT READS IS OF BULK AT MOST 1048576: true; the input reads as it did. -/
def fnSeriesProductsUptoRow : OpenClaim := { program := "ytibjkjhpfmmjoaa", sum := "c8ecadf3c09947803b6041a89ef4c376c3290e255d0731120e017eb4eb41be88", func := "loop.example/g01260/laws.FnSeriesProducts", spec := "fnSeriesProducts", inPlace := ["internal/bytealg.abigen_runtime_cmpstring"], apart := false, narrowed := true }
def FnSeriesProductsUptoSaid : Prop := fnSeriesProductsUptoRow.holds Try.pinned (OpenSpec.upto fnSeriesProductsSpec)

/-- 'laws.FnShuffles', WHERE WHAT IT READS IS OF BULK AT MOST 1048576: true; the input reads as it did. -/
def fnShufflesUptoRow : OpenClaim := { program := "ytibjkjhpfmmjoaa", sum := "c8ecadf3c09947803b6041a89ef4c376c3290e255d0731120e017eb4eb41be88", func := "loop.example/g01260/laws.FnShuffles", spec := "fnShuffles", inPlace := ["internal/bytealg.abigen_runtime_cmpstring"], unfollowed := true, recurses := true, apart := false, narrowed := true }
def FnShufflesUptoSaid : Prop := fnShufflesUptoRow.holds Try.pinned (OpenSpec.upto fnShufflesSpec)

end Rows
end Go.Proofs.Ytibjkjhpfmmjoaa
