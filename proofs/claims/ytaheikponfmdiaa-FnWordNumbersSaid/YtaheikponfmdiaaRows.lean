/-
  No cell of these rows narrows 'for every input' (looked for: loops, veiled, ifaces, maps, wideKeys, modest, calm, conditions, laid).
  DERIVED. THE GIVEN ROWS OF THIS SEAT. 11 by the template 'for every input the law returns true; each argument reads behind the call as it read before'; 0 by the template 'total and deterministic' (their statements: YtaheikponfmdiaaTotals.lean).
  GIVEN WITH THE SEED: the statements are not yours to turn. If you find one false, say at which input.
  Laid BY PROGRAM, IN A SANDBOX (cutbox-rows.mjs): the forced cells as the released guide's own fill.sh prints them over the translation 38004d70edd26e0c… (all of the seat's roots in one cut). By AI agents, Wed Nov 11 2026. No macro, syntax, notation, axiom, sorry.
-/
import Derived.Test.YtaheikponfmdiaaChecked
import GoSem.Claim
import GoSem.ClaimJoined
import GoSem.ClaimMapViews
import Derived.JoinedTies
import Derived.KernelRfl
namespace Go.Proofs.Ytaheikponfmdiaa
/- THE CELL 'sum', in the pinned program and in every row, IS THE sha256 OF THE DUMP (.gsa) THAT YtaheikponfmdiaaProg.lean LOADS. Nothing in Lean hashes anything: it is a label: what it is worth is what the hold of that sum in a sandbox is worth. -/
noncomputable def Try.pinned : Pinned := { name := "ytaheikponfmdiaa", sum := "38004d70edd26e0cc8092921c11684552e65b4a936577fe396a5d6a896c16949", checked := Try.checked }
namespace Rows
def none {H : Type} : Left H := { results := [], args := [] }

/-- 'laws.FnExactShuffleWords': WHATEVER THE INPUT: true; the input reads as it did. -/
def fnExactShuffleWordsSpec : ChangeSpec := { name := "fnExactShuffleWords", fn := fun _ => fun
  | [d1, d2, d3, d4] => { results := [.lit (.bool true)], args := [d1, d2, d3, d4] }
  | _ => none }
def fnExactShuffleWordsRow : OpenClaim := { program := "ytaheikponfmdiaa", sum := "38004d70edd26e0cc8092921c11684552e65b4a936577fe396a5d6a896c16949", func := "loop.example/g01260/laws.FnExactShuffleWords", spec := "fnExactShuffleWords", unfollowed := true, recurses := true, apart := false }
def FnExactShuffleWordsSaid : Prop := fnExactShuffleWordsRow.holds Try.pinned (OpenSpec.ofChange fnExactShuffleWordsSpec)

/-- ITS FALSE NEIGHBOUR: 'it returns false'. Refute it at one input. -/
def fnExactShuffleWordsWrong : ChangeSpec := { name := "fnExactShuffleWords", fn := fun _ => fun
  | [d1, d2, d3, d4] => { results := [.lit (.bool false)], args := [d1, d2, d3, d4] }
  | _ => none }
def FnExactShuffleWordsWrongFalsely : Prop := fnExactShuffleWordsRow.holds Try.pinned (OpenSpec.ofChange fnExactShuffleWordsWrong)

/-- 'laws.FnExactValueAtShuffle': WHATEVER THE INPUT: true; the input reads as it did. -/
def fnExactValueAtShuffleSpec : ChangeSpec := { name := "fnExactValueAtShuffle", fn := fun _ => fun
  | [d1, d2, d3] => { results := [.lit (.bool true)], args := [d1, d2, d3] }
  | _ => none }
def fnExactValueAtShuffleRow : OpenClaim := { program := "ytaheikponfmdiaa", sum := "38004d70edd26e0cc8092921c11684552e65b4a936577fe396a5d6a896c16949", func := "loop.example/g01260/laws.FnExactValueAtShuffle", spec := "fnExactValueAtShuffle", inPlace := ["internal/bytealg.abigen_runtime_cmpstring"], recurses := true, apart := false }
def FnExactValueAtShuffleSaid : Prop := fnExactValueAtShuffleRow.holds Try.pinned (OpenSpec.ofChange fnExactValueAtShuffleSpec)

/-- ITS FALSE NEIGHBOUR: 'it returns false'. Refute it at one input. -/
def fnExactValueAtShuffleWrong : ChangeSpec := { name := "fnExactValueAtShuffle", fn := fun _ => fun
  | [d1, d2, d3] => { results := [.lit (.bool false)], args := [d1, d2, d3] }
  | _ => none }
def FnExactValueAtShuffleWrongFalsely : Prop := fnExactValueAtShuffleRow.holds Try.pinned (OpenSpec.ofChange fnExactValueAtShuffleWrong)

/-- 'laws.FnExactIsLieSeries': WHATEVER THE INPUT: true; the input reads as it did. -/
def fnExactIsLieSeriesSpec : ChangeSpec := { name := "fnExactIsLieSeries", fn := fun _ => fun
  | [d] => { results := [.lit (.bool true)], args := [d] }
  | _ => none }
def fnExactIsLieSeriesRow : OpenClaim := { program := "ytaheikponfmdiaa", sum := "38004d70edd26e0cc8092921c11684552e65b4a936577fe396a5d6a896c16949", func := "loop.example/g01260/laws.FnExactIsLieSeries", spec := "fnExactIsLieSeries", inPlace := ["internal/bytealg.abigen_runtime_cmpstring"], unfollowed := true, recurses := true, apart := false }
def FnExactIsLieSeriesSaid : Prop := fnExactIsLieSeriesRow.holds Try.pinned (OpenSpec.ofChange fnExactIsLieSeriesSpec)

/-- ITS FALSE NEIGHBOUR: 'it returns false'. Refute it at one input. -/
def fnExactIsLieSeriesWrong : ChangeSpec := { name := "fnExactIsLieSeries", fn := fun _ => fun
  | [d] => { results := [.lit (.bool false)], args := [d] }
  | _ => none }
def FnExactIsLieSeriesWrongFalsely : Prop := fnExactIsLieSeriesRow.holds Try.pinned (OpenSpec.ofChange fnExactIsLieSeriesWrong)

/-- 'laws.FnExactIsGroupLike': WHATEVER THE INPUT: true; the input reads as it did. -/
def fnExactIsGroupLikeSpec : ChangeSpec := { name := "fnExactIsGroupLike", fn := fun _ => fun
  | [d] => { results := [.lit (.bool true)], args := [d] }
  | _ => none }
def fnExactIsGroupLikeRow : OpenClaim := { program := "ytaheikponfmdiaa", sum := "38004d70edd26e0cc8092921c11684552e65b4a936577fe396a5d6a896c16949", func := "loop.example/g01260/laws.FnExactIsGroupLike", spec := "fnExactIsGroupLike", inPlace := ["internal/bytealg.abigen_runtime_cmpstring"], unfollowed := true, recurses := true, apart := false }
def FnExactIsGroupLikeSaid : Prop := fnExactIsGroupLikeRow.holds Try.pinned (OpenSpec.ofChange fnExactIsGroupLikeSpec)

/-- ITS FALSE NEIGHBOUR: 'it returns false'. Refute it at one input. -/
def fnExactIsGroupLikeWrong : ChangeSpec := { name := "fnExactIsGroupLike", fn := fun _ => fun
  | [d] => { results := [.lit (.bool false)], args := [d] }
  | _ => none }
def FnExactIsGroupLikeWrongFalsely : Prop := fnExactIsGroupLikeRow.holds Try.pinned (OpenSpec.ofChange fnExactIsGroupLikeWrong)

/-- 'laws.FnExactShuffleSeries': WHATEVER THE INPUT: true; the input reads as it did. -/
def fnExactShuffleSeriesSpec : ChangeSpec := { name := "fnExactShuffleSeries", fn := fun _ => fun
  | [d1, d2] => { results := [.lit (.bool true)], args := [d1, d2] }
  | _ => none }
def fnExactShuffleSeriesRow : OpenClaim := { program := "ytaheikponfmdiaa", sum := "38004d70edd26e0cc8092921c11684552e65b4a936577fe396a5d6a896c16949", func := "loop.example/g01260/laws.FnExactShuffleSeries", spec := "fnExactShuffleSeries", inPlace := ["internal/bytealg.abigen_runtime_cmpstring"], unfollowed := true, recurses := true, apart := false }
def FnExactShuffleSeriesSaid : Prop := fnExactShuffleSeriesRow.holds Try.pinned (OpenSpec.ofChange fnExactShuffleSeriesSpec)

/-- ITS FALSE NEIGHBOUR: 'it returns false'. Refute it at one input. -/
def fnExactShuffleSeriesWrong : ChangeSpec := { name := "fnExactShuffleSeries", fn := fun _ => fun
  | [d1, d2] => { results := [.lit (.bool false)], args := [d1, d2] }
  | _ => none }
def FnExactShuffleSeriesWrongFalsely : Prop := fnExactShuffleSeriesRow.holds Try.pinned (OpenSpec.ofChange fnExactShuffleSeriesWrong)

/-- 'laws.FnExactHalfShuffle': WHATEVER THE INPUT: true; the input reads as it did. -/
def fnExactHalfShuffleSpec : ChangeSpec := { name := "fnExactHalfShuffle", fn := fun _ => fun
  | [d1, d2] => { results := [.lit (.bool true)], args := [d1, d2] }
  | _ => none }
def fnExactHalfShuffleRow : OpenClaim := { program := "ytaheikponfmdiaa", sum := "38004d70edd26e0cc8092921c11684552e65b4a936577fe396a5d6a896c16949", func := "loop.example/g01260/laws.FnExactHalfShuffle", spec := "fnExactHalfShuffle", inPlace := ["internal/bytealg.abigen_runtime_cmpstring"], unfollowed := true, recurses := true, apart := false }
def FnExactHalfShuffleSaid : Prop := fnExactHalfShuffleRow.holds Try.pinned (OpenSpec.ofChange fnExactHalfShuffleSpec)

/-- ITS FALSE NEIGHBOUR: 'it returns false'. Refute it at one input. -/
def fnExactHalfShuffleWrong : ChangeSpec := { name := "fnExactHalfShuffle", fn := fun _ => fun
  | [d1, d2] => { results := [.lit (.bool false)], args := [d1, d2] }
  | _ => none }
def FnExactHalfShuffleWrongFalsely : Prop := fnExactHalfShuffleRow.holds Try.pinned (OpenSpec.ofChange fnExactHalfShuffleWrong)

/-- 'laws.FnExactShufflePower': WHATEVER THE INPUT: true; the input reads as it did. -/
def fnExactShufflePowerSpec : ChangeSpec := { name := "fnExactShufflePower", fn := fun _ => fun
  | [d1, d2] => { results := [.lit (.bool true)], args := [d1, d2] }
  | _ => none }
def fnExactShufflePowerRow : OpenClaim := { program := "ytaheikponfmdiaa", sum := "38004d70edd26e0cc8092921c11684552e65b4a936577fe396a5d6a896c16949", func := "loop.example/g01260/laws.FnExactShufflePower", spec := "fnExactShufflePower", inPlace := ["internal/bytealg.abigen_runtime_cmpstring"], unfollowed := true, recurses := true, apart := false }
def FnExactShufflePowerSaid : Prop := fnExactShufflePowerRow.holds Try.pinned (OpenSpec.ofChange fnExactShufflePowerSpec)

/-- ITS FALSE NEIGHBOUR: 'it returns false'. Refute it at one input. -/
def fnExactShufflePowerWrong : ChangeSpec := { name := "fnExactShufflePower", fn := fun _ => fun
  | [d1, d2] => { results := [.lit (.bool false)], args := [d1, d2] }
  | _ => none }
def FnExactShufflePowerWrongFalsely : Prop := fnExactShufflePowerRow.holds Try.pinned (OpenSpec.ofChange fnExactShufflePowerWrong)

/-- 'laws.FnWordNumbers': WHATEVER THE INPUT: true; the input reads as it did. -/
def fnWordNumbersSpec : ChangeSpec := { name := "fnWordNumbers", fn := fun _ => fun
  | [d] => { results := [.lit (.bool true)], args := [d] }
  | _ => none }
def fnWordNumbersRow : OpenClaim := { program := "ytaheikponfmdiaa", sum := "38004d70edd26e0cc8092921c11684552e65b4a936577fe396a5d6a896c16949", func := "loop.example/g01260/laws.FnWordNumbers", spec := "fnWordNumbers", apart := false }
def FnWordNumbersSaid : Prop := fnWordNumbersRow.holds Try.pinned (OpenSpec.ofChange fnWordNumbersSpec)

/-- ITS FALSE NEIGHBOUR: 'it returns false'. Refute it at one input. -/
def fnWordNumbersWrong : ChangeSpec := { name := "fnWordNumbers", fn := fun _ => fun
  | [d] => { results := [.lit (.bool false)], args := [d] }
  | _ => none }
def FnWordNumbersWrongFalsely : Prop := fnWordNumbersRow.holds Try.pinned (OpenSpec.ofChange fnWordNumbersWrong)

/-- 'laws.FnReversals': WHATEVER THE INPUT: true; the input reads as it did. -/
def fnReversalsSpec : ChangeSpec := { name := "fnReversals", fn := fun _ => fun
  | [d] => { results := [.lit (.bool true)], args := [d] }
  | _ => none }
def fnReversalsRow : OpenClaim := { program := "ytaheikponfmdiaa", sum := "38004d70edd26e0cc8092921c11684552e65b4a936577fe396a5d6a896c16949", func := "loop.example/g01260/laws.FnReversals", spec := "fnReversals", inPlace := ["internal/bytealg.abigen_runtime_cmpstring"], unfollowed := true, recurses := true, apart := false }
def FnReversalsSaid : Prop := fnReversalsRow.holds Try.pinned (OpenSpec.ofChange fnReversalsSpec)

/-- ITS FALSE NEIGHBOUR: 'it returns false'. Refute it at one input. -/
def fnReversalsWrong : ChangeSpec := { name := "fnReversals", fn := fun _ => fun
  | [d] => { results := [.lit (.bool false)], args := [d] }
  | _ => none }
def FnReversalsWrongFalsely : Prop := fnReversalsRow.holds Try.pinned (OpenSpec.ofChange fnReversalsWrong)

/-- 'laws.FnSeriesProducts': WHATEVER THE INPUT: true; the input reads as it did. -/
def fnSeriesProductsSpec : ChangeSpec := { name := "fnSeriesProducts", fn := fun _ => fun
  | [d] => { results := [.lit (.bool true)], args := [d] }
  | _ => none }
def fnSeriesProductsRow : OpenClaim := { program := "ytaheikponfmdiaa", sum := "38004d70edd26e0cc8092921c11684552e65b4a936577fe396a5d6a896c16949", func := "loop.example/g01260/laws.FnSeriesProducts", spec := "fnSeriesProducts", inPlace := ["internal/bytealg.abigen_runtime_cmpstring"], apart := false }
def FnSeriesProductsSaid : Prop := fnSeriesProductsRow.holds Try.pinned (OpenSpec.ofChange fnSeriesProductsSpec)

/-- ITS FALSE NEIGHBOUR: 'it returns false'. Refute it at one input. -/
def fnSeriesProductsWrong : ChangeSpec := { name := "fnSeriesProducts", fn := fun _ => fun
  | [d] => { results := [.lit (.bool false)], args := [d] }
  | _ => none }
def FnSeriesProductsWrongFalsely : Prop := fnSeriesProductsRow.holds Try.pinned (OpenSpec.ofChange fnSeriesProductsWrong)

/-- 'laws.FnShuffles': WHATEVER THE INPUT: true; the input reads as it did. -/
def fnShufflesSpec : ChangeSpec := { name := "fnShuffles", fn := fun _ => fun
  | [d] => { results := [.lit (.bool true)], args := [d] }
  | _ => none }
def fnShufflesRow : OpenClaim := { program := "ytaheikponfmdiaa", sum := "38004d70edd26e0cc8092921c11684552e65b4a936577fe396a5d6a896c16949", func := "loop.example/g01260/laws.FnShuffles", spec := "fnShuffles", inPlace := ["internal/bytealg.abigen_runtime_cmpstring"], unfollowed := true, recurses := true, apart := false }
def FnShufflesSaid : Prop := fnShufflesRow.holds Try.pinned (OpenSpec.ofChange fnShufflesSpec)

/-- ITS FALSE NEIGHBOUR: 'it returns false'. Refute it at one input. -/
def fnShufflesWrong : ChangeSpec := { name := "fnShuffles", fn := fun _ => fun
  | [d] => { results := [.lit (.bool false)], args := [d] }
  | _ => none }
def FnShufflesWrongFalsely : Prop := fnShufflesRow.holds Try.pinned (OpenSpec.ofChange fnShufflesWrong)

/- THE SECOND FORM. 'bulk': how many values and letters a reading holds, each counted each time it is reached (what is shared counts as often as it is met; a slice's spare places count too). A statement '..UptoSaid' is the law's where the arguments, and the package variables that the reading takes, are together of bulk at most 1048576: NARROWER than '..Said'. Prove '..Said' where nothing that the law and all that it calls make is longer than what came in: it says more and counts as full. Else prove '..UptoSaid'. A law counts once. -/
mutual
def uptoBulk {H : Type} : DataW H → Nat
  | .lit (.string bytes) => bytes.length + 1
  | .lit _ => 1
  | .nil => 1
  | .ptr d => uptoBulk d + 1
  | .slice elems spare => uptoBulkAll elems + uptoBulkAll spare + 1
  | .agg parts => uptoBulkAll parts + 1
  | .iface _ d => uptoBulk d + 1
  | .map entries => uptoBulkEntries entries + 1
  | .held _ => 1
def uptoBulkAll {H : Type} : List (DataW H) → Nat
  | [] => 0
  | d :: r => uptoBulk d + uptoBulkAll r
def uptoBulkEntries {H : Type} : List (Lit × DataW H) → Nat
  | [] => 0
  | x :: r => uptoBulkEntry x + uptoBulkEntries r
def uptoBulkEntry {H : Type} : Lit × DataW H → Nat
  | (.string bytes, d) => bytes.length + uptoBulk d + 1
  | (_, d) => uptoBulk d + 1
 end
def uptoSmall : (H : Type) → List (DataW H) → Bool := fun _ ds => decide (uptoBulkAll ds ≤ 1048576)
def OpenSpec.upto (s : _root_.Go.ChangeSpec) : _root_.Go.OpenSpec := { _root_.Go.OpenSpec.ofChange s with cond := some uptoSmall }

/-- 'laws.FnExactShuffleWords', WHERE WHAT IT READS IS OF BULK AT MOST 1048576: true; the input reads as it did. -/
def fnExactShuffleWordsUptoRow : OpenClaim := { program := "ytaheikponfmdiaa", sum := "38004d70edd26e0cc8092921c11684552e65b4a936577fe396a5d6a896c16949", func := "loop.example/g01260/laws.FnExactShuffleWords", spec := "fnExactShuffleWords", unfollowed := true, recurses := true, apart := false, narrowed := true }
def FnExactShuffleWordsUptoSaid : Prop := fnExactShuffleWordsUptoRow.holds Try.pinned (OpenSpec.upto fnExactShuffleWordsSpec)

/-- 'laws.FnExactValueAtShuffle', WHERE WHAT IT READS IS OF BULK AT MOST 1048576: true; the input reads as it did. -/
def fnExactValueAtShuffleUptoRow : OpenClaim := { program := "ytaheikponfmdiaa", sum := "38004d70edd26e0cc8092921c11684552e65b4a936577fe396a5d6a896c16949", func := "loop.example/g01260/laws.FnExactValueAtShuffle", spec := "fnExactValueAtShuffle", inPlace := ["internal/bytealg.abigen_runtime_cmpstring"], recurses := true, apart := false, narrowed := true }
def FnExactValueAtShuffleUptoSaid : Prop := fnExactValueAtShuffleUptoRow.holds Try.pinned (OpenSpec.upto fnExactValueAtShuffleSpec)

/-- 'laws.FnExactIsLieSeries', WHERE WHAT IT READS IS OF BULK AT MOST 1048576: true; the input reads as it did. -/
def fnExactIsLieSeriesUptoRow : OpenClaim := { program := "ytaheikponfmdiaa", sum := "38004d70edd26e0cc8092921c11684552e65b4a936577fe396a5d6a896c16949", func := "loop.example/g01260/laws.FnExactIsLieSeries", spec := "fnExactIsLieSeries", inPlace := ["internal/bytealg.abigen_runtime_cmpstring"], unfollowed := true, recurses := true, apart := false, narrowed := true }
def FnExactIsLieSeriesUptoSaid : Prop := fnExactIsLieSeriesUptoRow.holds Try.pinned (OpenSpec.upto fnExactIsLieSeriesSpec)

/-- 'laws.FnExactIsGroupLike', WHERE WHAT IT READS IS OF BULK AT MOST 1048576: true; the input reads as it did. -/
def fnExactIsGroupLikeUptoRow : OpenClaim := { program := "ytaheikponfmdiaa", sum := "38004d70edd26e0cc8092921c11684552e65b4a936577fe396a5d6a896c16949", func := "loop.example/g01260/laws.FnExactIsGroupLike", spec := "fnExactIsGroupLike", inPlace := ["internal/bytealg.abigen_runtime_cmpstring"], unfollowed := true, recurses := true, apart := false, narrowed := true }
def FnExactIsGroupLikeUptoSaid : Prop := fnExactIsGroupLikeUptoRow.holds Try.pinned (OpenSpec.upto fnExactIsGroupLikeSpec)

/-- 'laws.FnExactShuffleSeries', WHERE WHAT IT READS IS OF BULK AT MOST 1048576: true; the input reads as it did. -/
def fnExactShuffleSeriesUptoRow : OpenClaim := { program := "ytaheikponfmdiaa", sum := "38004d70edd26e0cc8092921c11684552e65b4a936577fe396a5d6a896c16949", func := "loop.example/g01260/laws.FnExactShuffleSeries", spec := "fnExactShuffleSeries", inPlace := ["internal/bytealg.abigen_runtime_cmpstring"], unfollowed := true, recurses := true, apart := false, narrowed := true }
def FnExactShuffleSeriesUptoSaid : Prop := fnExactShuffleSeriesUptoRow.holds Try.pinned (OpenSpec.upto fnExactShuffleSeriesSpec)

/-- 'laws.FnExactHalfShuffle', WHERE WHAT IT READS IS OF BULK AT MOST 1048576: true; the input reads as it did. -/
def fnExactHalfShuffleUptoRow : OpenClaim := { program := "ytaheikponfmdiaa", sum := "38004d70edd26e0cc8092921c11684552e65b4a936577fe396a5d6a896c16949", func := "loop.example/g01260/laws.FnExactHalfShuffle", spec := "fnExactHalfShuffle", inPlace := ["internal/bytealg.abigen_runtime_cmpstring"], unfollowed := true, recurses := true, apart := false, narrowed := true }
def FnExactHalfShuffleUptoSaid : Prop := fnExactHalfShuffleUptoRow.holds Try.pinned (OpenSpec.upto fnExactHalfShuffleSpec)

/-- 'laws.FnExactShufflePower', WHERE WHAT IT READS IS OF BULK AT MOST 1048576: true; the input reads as it did. -/
def fnExactShufflePowerUptoRow : OpenClaim := { program := "ytaheikponfmdiaa", sum := "38004d70edd26e0cc8092921c11684552e65b4a936577fe396a5d6a896c16949", func := "loop.example/g01260/laws.FnExactShufflePower", spec := "fnExactShufflePower", inPlace := ["internal/bytealg.abigen_runtime_cmpstring"], unfollowed := true, recurses := true, apart := false, narrowed := true }
def FnExactShufflePowerUptoSaid : Prop := fnExactShufflePowerUptoRow.holds Try.pinned (OpenSpec.upto fnExactShufflePowerSpec)

/-- 'laws.FnWordNumbers', WHERE WHAT IT READS IS OF BULK AT MOST 1048576: true; the input reads as it did. -/
def fnWordNumbersUptoRow : OpenClaim := { program := "ytaheikponfmdiaa", sum := "38004d70edd26e0cc8092921c11684552e65b4a936577fe396a5d6a896c16949", func := "loop.example/g01260/laws.FnWordNumbers", spec := "fnWordNumbers", apart := false, narrowed := true }
def FnWordNumbersUptoSaid : Prop := fnWordNumbersUptoRow.holds Try.pinned (OpenSpec.upto fnWordNumbersSpec)

/-- 'laws.FnReversals', WHERE WHAT IT READS IS OF BULK AT MOST 1048576: true; the input reads as it did. -/
def fnReversalsUptoRow : OpenClaim := { program := "ytaheikponfmdiaa", sum := "38004d70edd26e0cc8092921c11684552e65b4a936577fe396a5d6a896c16949", func := "loop.example/g01260/laws.FnReversals", spec := "fnReversals", inPlace := ["internal/bytealg.abigen_runtime_cmpstring"], unfollowed := true, recurses := true, apart := false, narrowed := true }
def FnReversalsUptoSaid : Prop := fnReversalsUptoRow.holds Try.pinned (OpenSpec.upto fnReversalsSpec)

/-- 'laws.FnSeriesProducts', WHERE WHAT IT READS IS OF BULK AT MOST 1048576: true; the input reads as it did. -/
def fnSeriesProductsUptoRow : OpenClaim := { program := "ytaheikponfmdiaa", sum := "38004d70edd26e0cc8092921c11684552e65b4a936577fe396a5d6a896c16949", func := "loop.example/g01260/laws.FnSeriesProducts", spec := "fnSeriesProducts", inPlace := ["internal/bytealg.abigen_runtime_cmpstring"], apart := false, narrowed := true }
def FnSeriesProductsUptoSaid : Prop := fnSeriesProductsUptoRow.holds Try.pinned (OpenSpec.upto fnSeriesProductsSpec)

/-- 'laws.FnShuffles', WHERE WHAT IT READS IS OF BULK AT MOST 1048576: true; the input reads as it did. -/
def fnShufflesUptoRow : OpenClaim := { program := "ytaheikponfmdiaa", sum := "38004d70edd26e0cc8092921c11684552e65b4a936577fe396a5d6a896c16949", func := "loop.example/g01260/laws.FnShuffles", spec := "fnShuffles", inPlace := ["internal/bytealg.abigen_runtime_cmpstring"], unfollowed := true, recurses := true, apart := false, narrowed := true }
def FnShufflesUptoSaid : Prop := fnShufflesUptoRow.holds Try.pinned (OpenSpec.upto fnShufflesSpec)

end Rows
end Go.Proofs.Ytaheikponfmdiaa
