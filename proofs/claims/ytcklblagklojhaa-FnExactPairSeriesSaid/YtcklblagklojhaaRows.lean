/-
  No cell of these rows narrows 'for every input' (looked for: loops, veiled, ifaces, maps, wideKeys, modest, calm, conditions, laid).
  DERIVED. THE GIVEN ROWS OF THIS SEAT. 27 by the template 'for every input the law returns true; each argument reads behind the call as it read before'; 0 by the template 'total and deterministic' (their statements: YtcklblagklojhaaTotals.lean).
  GIVEN WITH THE SEED: the statements are not yours to turn. If you find one false, say at which input.
  Laid BY PROGRAM, IN A SANDBOX (cutbox-rows.mjs): the forced cells as the released guide's own fill.sh prints them over the translation dac7a314d4e26a06… (all of the seat's roots in one cut). By AI agents, Wed Nov 11 2026. No macro, syntax, notation, axiom, sorry.
-/
import Derived.Test.YtcklblagklojhaaChecked
import GoSem.Claim
import GoSem.ClaimJoined
import GoSem.ClaimMapViews
import Derived.JoinedTies
import Derived.KernelRfl
namespace Go.Proofs.Ytcklblagklojhaa
/- THE CELL 'sum', in the pinned program and in every row, IS THE sha256 OF THE DUMP (.gsa) THAT YtcklblagklojhaaProg.lean LOADS. Nothing in Lean hashes anything: it is a label: what it is worth is what the hold of that sum in a sandbox is worth. -/
noncomputable def Try.pinned : Pinned := { name := "ytcklblagklojhaa", sum := "dac7a314d4e26a06ea004a3f3625ba04b3900e240ad3e14184bdabbb4fa6428b", checked := Try.checked }
namespace Rows
def none {H : Type} : Left H := { results := [], args := [] }

/-- 'laws.FnExactDivideFractions': WHATEVER THE INPUT: true; the input reads as it did. -/
def fnExactDivideFractionsSpec : ChangeSpec := { name := "fnExactDivideFractions", fn := fun _ => fun
  | [d1, d2] => { results := [.lit (.bool true)], args := [d1, d2] }
  | _ => none }
def fnExactDivideFractionsRow : OpenClaim := { program := "ytcklblagklojhaa", sum := "dac7a314d4e26a06ea004a3f3625ba04b3900e240ad3e14184bdabbb4fa6428b", func := "loop.example/g01260/laws.FnExactDivideFractions", spec := "fnExactDivideFractions", unfollowed := true, recurses := true, apart := false }
def FnExactDivideFractionsSaid : Prop := fnExactDivideFractionsRow.holds Try.pinned (OpenSpec.ofChange fnExactDivideFractionsSpec)

/-- ITS FALSE NEIGHBOUR: 'it returns false'. Refute it at one input. -/
def fnExactDivideFractionsWrong : ChangeSpec := { name := "fnExactDivideFractions", fn := fun _ => fun
  | [d1, d2] => { results := [.lit (.bool false)], args := [d1, d2] }
  | _ => none }
def FnExactDivideFractionsWrongFalsely : Prop := fnExactDivideFractionsRow.holds Try.pinned (OpenSpec.ofChange fnExactDivideFractionsWrong)

/-- 'laws.FnExactLetterSeries': WHATEVER THE INPUT: true; the input reads as it did. -/
def fnExactLetterSeriesSpec : ChangeSpec := { name := "fnExactLetterSeries", fn := fun _ => fun
  | [d1, d2, d3] => { results := [.lit (.bool true)], args := [d1, d2, d3] }
  | _ => none }
def fnExactLetterSeriesRow : OpenClaim := { program := "ytcklblagklojhaa", sum := "dac7a314d4e26a06ea004a3f3625ba04b3900e240ad3e14184bdabbb4fa6428b", func := "loop.example/g01260/laws.FnExactLetterSeries", spec := "fnExactLetterSeries", apart := false }
def FnExactLetterSeriesSaid : Prop := fnExactLetterSeriesRow.holds Try.pinned (OpenSpec.ofChange fnExactLetterSeriesSpec)

/-- ITS FALSE NEIGHBOUR: 'it returns false'. Refute it at one input. -/
def fnExactLetterSeriesWrong : ChangeSpec := { name := "fnExactLetterSeries", fn := fun _ => fun
  | [d1, d2, d3] => { results := [.lit (.bool false)], args := [d1, d2, d3] }
  | _ => none }
def FnExactLetterSeriesWrongFalsely : Prop := fnExactLetterSeriesRow.holds Try.pinned (OpenSpec.ofChange fnExactLetterSeriesWrong)

/-- 'laws.FnExactIsSeries': WHATEVER THE INPUT: true; the input reads as it did. -/
def fnExactIsSeriesSpec : ChangeSpec := { name := "fnExactIsSeries", fn := fun _ => fun
  | [d] => { results := [.lit (.bool true)], args := [d] }
  | _ => none }
def fnExactIsSeriesRow : OpenClaim := { program := "ytcklblagklojhaa", sum := "dac7a314d4e26a06ea004a3f3625ba04b3900e240ad3e14184bdabbb4fa6428b", func := "loop.example/g01260/laws.FnExactIsSeries", spec := "fnExactIsSeries", inPlace := ["internal/bytealg.abigen_runtime_cmpstring"], apart := false }
def FnExactIsSeriesSaid : Prop := fnExactIsSeriesRow.holds Try.pinned (OpenSpec.ofChange fnExactIsSeriesSpec)

/-- ITS FALSE NEIGHBOUR: 'it returns false'. Refute it at one input. -/
def fnExactIsSeriesWrong : ChangeSpec := { name := "fnExactIsSeries", fn := fun _ => fun
  | [d] => { results := [.lit (.bool false)], args := [d] }
  | _ => none }
def FnExactIsSeriesWrongFalsely : Prop := fnExactIsSeriesRow.holds Try.pinned (OpenSpec.ofChange fnExactIsSeriesWrong)

/-- 'laws.FnExactUnitSeries': WHATEVER THE INPUT: true; the input reads as it did. -/
def fnExactUnitSeriesSpec : ChangeSpec := { name := "fnExactUnitSeries", fn := fun _ => fun
  | [d1, d2] => { results := [.lit (.bool true)], args := [d1, d2] }
  | _ => none }
def fnExactUnitSeriesRow : OpenClaim := { program := "ytcklblagklojhaa", sum := "dac7a314d4e26a06ea004a3f3625ba04b3900e240ad3e14184bdabbb4fa6428b", func := "loop.example/g01260/laws.FnExactUnitSeries", spec := "fnExactUnitSeries", apart := false }
def FnExactUnitSeriesSaid : Prop := fnExactUnitSeriesRow.holds Try.pinned (OpenSpec.ofChange fnExactUnitSeriesSpec)

/-- ITS FALSE NEIGHBOUR: 'it returns false'. Refute it at one input. -/
def fnExactUnitSeriesWrong : ChangeSpec := { name := "fnExactUnitSeries", fn := fun _ => fun
  | [d1, d2] => { results := [.lit (.bool false)], args := [d1, d2] }
  | _ => none }
def FnExactUnitSeriesWrongFalsely : Prop := fnExactUnitSeriesRow.holds Try.pinned (OpenSpec.ofChange fnExactUnitSeriesWrong)

/-- 'laws.FnExactTruncateSeries': WHATEVER THE INPUT: true; the input reads as it did. -/
def fnExactTruncateSeriesSpec : ChangeSpec := { name := "fnExactTruncateSeries", fn := fun _ => fun
  | [d1, d2] => { results := [.lit (.bool true)], args := [d1, d2] }
  | _ => none }
def fnExactTruncateSeriesRow : OpenClaim := { program := "ytcklblagklojhaa", sum := "dac7a314d4e26a06ea004a3f3625ba04b3900e240ad3e14184bdabbb4fa6428b", func := "loop.example/g01260/laws.FnExactTruncateSeries", spec := "fnExactTruncateSeries", inPlace := ["internal/bytealg.abigen_runtime_cmpstring"], unfollowed := true, recurses := true, apart := false }
def FnExactTruncateSeriesSaid : Prop := fnExactTruncateSeriesRow.holds Try.pinned (OpenSpec.ofChange fnExactTruncateSeriesSpec)

/-- ITS FALSE NEIGHBOUR: 'it returns false'. Refute it at one input. -/
def fnExactTruncateSeriesWrong : ChangeSpec := { name := "fnExactTruncateSeries", fn := fun _ => fun
  | [d1, d2] => { results := [.lit (.bool false)], args := [d1, d2] }
  | _ => none }
def FnExactTruncateSeriesWrongFalsely : Prop := fnExactTruncateSeriesRow.holds Try.pinned (OpenSpec.ofChange fnExactTruncateSeriesWrong)

/-- 'laws.FnExactPartOf': WHATEVER THE INPUT: true; the input reads as it did. -/
def fnExactPartOfSpec : ChangeSpec := { name := "fnExactPartOf", fn := fun _ => fun
  | [d1, d2] => { results := [.lit (.bool true)], args := [d1, d2] }
  | _ => none }
def fnExactPartOfRow : OpenClaim := { program := "ytcklblagklojhaa", sum := "dac7a314d4e26a06ea004a3f3625ba04b3900e240ad3e14184bdabbb4fa6428b", func := "loop.example/g01260/laws.FnExactPartOf", spec := "fnExactPartOf", inPlace := ["internal/bytealg.abigen_runtime_cmpstring"], unfollowed := true, recurses := true, apart := false }
def FnExactPartOfSaid : Prop := fnExactPartOfRow.holds Try.pinned (OpenSpec.ofChange fnExactPartOfSpec)

/-- ITS FALSE NEIGHBOUR: 'it returns false'. Refute it at one input. -/
def fnExactPartOfWrong : ChangeSpec := { name := "fnExactPartOf", fn := fun _ => fun
  | [d1, d2] => { results := [.lit (.bool false)], args := [d1, d2] }
  | _ => none }
def FnExactPartOfWrongFalsely : Prop := fnExactPartOfRow.holds Try.pinned (OpenSpec.ofChange fnExactPartOfWrong)

/-- 'laws.FnExactConstantOf': WHATEVER THE INPUT: true; the input reads as it did. -/
def fnExactConstantOfSpec : ChangeSpec := { name := "fnExactConstantOf", fn := fun _ => fun
  | [d] => { results := [.lit (.bool true)], args := [d] }
  | _ => none }
def fnExactConstantOfRow : OpenClaim := { program := "ytcklblagklojhaa", sum := "dac7a314d4e26a06ea004a3f3625ba04b3900e240ad3e14184bdabbb4fa6428b", func := "loop.example/g01260/laws.FnExactConstantOf", spec := "fnExactConstantOf", inPlace := ["internal/bytealg.abigen_runtime_cmpstring"], apart := false }
def FnExactConstantOfSaid : Prop := fnExactConstantOfRow.holds Try.pinned (OpenSpec.ofChange fnExactConstantOfSpec)

/-- ITS FALSE NEIGHBOUR: 'it returns false'. Refute it at one input. -/
def fnExactConstantOfWrong : ChangeSpec := { name := "fnExactConstantOf", fn := fun _ => fun
  | [d] => { results := [.lit (.bool false)], args := [d] }
  | _ => none }
def FnExactConstantOfWrongFalsely : Prop := fnExactConstantOfRow.holds Try.pinned (OpenSpec.ofChange fnExactConstantOfWrong)

/-- 'laws.FnExactCoefficientOf': WHATEVER THE INPUT: true; the input reads as it did. -/
def fnExactCoefficientOfSpec : ChangeSpec := { name := "fnExactCoefficientOf", fn := fun _ => fun
  | [d1, d2] => { results := [.lit (.bool true)], args := [d1, d2] }
  | _ => none }
def fnExactCoefficientOfRow : OpenClaim := { program := "ytcklblagklojhaa", sum := "dac7a314d4e26a06ea004a3f3625ba04b3900e240ad3e14184bdabbb4fa6428b", func := "loop.example/g01260/laws.FnExactCoefficientOf", spec := "fnExactCoefficientOf", inPlace := ["internal/bytealg.abigen_runtime_cmpstring"], apart := false }
def FnExactCoefficientOfSaid : Prop := fnExactCoefficientOfRow.holds Try.pinned (OpenSpec.ofChange fnExactCoefficientOfSpec)

/-- ITS FALSE NEIGHBOUR: 'it returns false'. Refute it at one input. -/
def fnExactCoefficientOfWrong : ChangeSpec := { name := "fnExactCoefficientOf", fn := fun _ => fun
  | [d1, d2] => { results := [.lit (.bool false)], args := [d1, d2] }
  | _ => none }
def FnExactCoefficientOfWrongFalsely : Prop := fnExactCoefficientOfRow.holds Try.pinned (OpenSpec.ofChange fnExactCoefficientOfWrong)

/-- 'laws.FnExactShuffleWords': WHATEVER THE INPUT: true; the input reads as it did. -/
def fnExactShuffleWordsSpec : ChangeSpec := { name := "fnExactShuffleWords", fn := fun _ => fun
  | [d1, d2, d3, d4] => { results := [.lit (.bool true)], args := [d1, d2, d3, d4] }
  | _ => none }
def fnExactShuffleWordsRow : OpenClaim := { program := "ytcklblagklojhaa", sum := "dac7a314d4e26a06ea004a3f3625ba04b3900e240ad3e14184bdabbb4fa6428b", func := "loop.example/g01260/laws.FnExactShuffleWords", spec := "fnExactShuffleWords", unfollowed := true, recurses := true, apart := false }
def FnExactShuffleWordsSaid : Prop := fnExactShuffleWordsRow.holds Try.pinned (OpenSpec.ofChange fnExactShuffleWordsSpec)

/-- ITS FALSE NEIGHBOUR: 'it returns false'. Refute it at one input. -/
def fnExactShuffleWordsWrong : ChangeSpec := { name := "fnExactShuffleWords", fn := fun _ => fun
  | [d1, d2, d3, d4] => { results := [.lit (.bool false)], args := [d1, d2, d3, d4] }
  | _ => none }
def FnExactShuffleWordsWrongFalsely : Prop := fnExactShuffleWordsRow.holds Try.pinned (OpenSpec.ofChange fnExactShuffleWordsWrong)

/-- 'laws.FnExactPairSeries': WHATEVER THE INPUT: true; the input reads as it did. -/
def fnExactPairSeriesSpec : ChangeSpec := { name := "fnExactPairSeries", fn := fun _ => fun
  | [d1, d2] => { results := [.lit (.bool true)], args := [d1, d2] }
  | _ => none }
def fnExactPairSeriesRow : OpenClaim := { program := "ytcklblagklojhaa", sum := "dac7a314d4e26a06ea004a3f3625ba04b3900e240ad3e14184bdabbb4fa6428b", func := "loop.example/g01260/laws.FnExactPairSeries", spec := "fnExactPairSeries", inPlace := ["internal/bytealg.abigen_runtime_cmpstring"], apart := false }
def FnExactPairSeriesSaid : Prop := fnExactPairSeriesRow.holds Try.pinned (OpenSpec.ofChange fnExactPairSeriesSpec)

/-- ITS FALSE NEIGHBOUR: 'it returns false'. Refute it at one input. -/
def fnExactPairSeriesWrong : ChangeSpec := { name := "fnExactPairSeries", fn := fun _ => fun
  | [d1, d2] => { results := [.lit (.bool false)], args := [d1, d2] }
  | _ => none }
def FnExactPairSeriesWrongFalsely : Prop := fnExactPairSeriesRow.holds Try.pinned (OpenSpec.ofChange fnExactPairSeriesWrong)

/-- 'laws.FnExactPutTerm': WHATEVER THE INPUT: true; the input reads as it did. -/
def fnExactPutTermSpec : ChangeSpec := { name := "fnExactPutTerm", fn := fun _ => fun
  | [d1, d2, d3] => { results := [.lit (.bool true)], args := [d1, d2, d3] }
  | _ => none }
def fnExactPutTermRow : OpenClaim := { program := "ytcklblagklojhaa", sum := "dac7a314d4e26a06ea004a3f3625ba04b3900e240ad3e14184bdabbb4fa6428b", func := "loop.example/g01260/laws.FnExactPutTerm", spec := "fnExactPutTerm", inPlace := ["internal/bytealg.abigen_runtime_cmpstring"], apart := false }
def FnExactPutTermSaid : Prop := fnExactPutTermRow.holds Try.pinned (OpenSpec.ofChange fnExactPutTermSpec)

/-- ITS FALSE NEIGHBOUR: 'it returns false'. Refute it at one input. -/
def fnExactPutTermWrong : ChangeSpec := { name := "fnExactPutTerm", fn := fun _ => fun
  | [d1, d2, d3] => { results := [.lit (.bool false)], args := [d1, d2, d3] }
  | _ => none }
def FnExactPutTermWrongFalsely : Prop := fnExactPutTermRow.holds Try.pinned (OpenSpec.ofChange fnExactPutTermWrong)

/-- 'laws.FnExactScaleSeries': WHATEVER THE INPUT: true; the input reads as it did. -/
def fnExactScaleSeriesSpec : ChangeSpec := { name := "fnExactScaleSeries", fn := fun _ => fun
  | [d1, d2] => { results := [.lit (.bool true)], args := [d1, d2] }
  | _ => none }
def fnExactScaleSeriesRow : OpenClaim := { program := "ytcklblagklojhaa", sum := "dac7a314d4e26a06ea004a3f3625ba04b3900e240ad3e14184bdabbb4fa6428b", func := "loop.example/g01260/laws.FnExactScaleSeries", spec := "fnExactScaleSeries", inPlace := ["internal/bytealg.abigen_runtime_cmpstring"], apart := false }
def FnExactScaleSeriesSaid : Prop := fnExactScaleSeriesRow.holds Try.pinned (OpenSpec.ofChange fnExactScaleSeriesSpec)

/-- ITS FALSE NEIGHBOUR: 'it returns false'. Refute it at one input. -/
def fnExactScaleSeriesWrong : ChangeSpec := { name := "fnExactScaleSeries", fn := fun _ => fun
  | [d1, d2] => { results := [.lit (.bool false)], args := [d1, d2] }
  | _ => none }
def FnExactScaleSeriesWrongFalsely : Prop := fnExactScaleSeriesRow.holds Try.pinned (OpenSpec.ofChange fnExactScaleSeriesWrong)

/-- 'laws.FnExactAntipodeOf': WHATEVER THE INPUT: true; the input reads as it did. -/
def fnExactAntipodeOfSpec : ChangeSpec := { name := "fnExactAntipodeOf", fn := fun _ => fun
  | [d] => { results := [.lit (.bool true)], args := [d] }
  | _ => none }
def fnExactAntipodeOfRow : OpenClaim := { program := "ytcklblagklojhaa", sum := "dac7a314d4e26a06ea004a3f3625ba04b3900e240ad3e14184bdabbb4fa6428b", func := "loop.example/g01260/laws.FnExactAntipodeOf", spec := "fnExactAntipodeOf", inPlace := ["internal/bytealg.abigen_runtime_cmpstring"], apart := false }
def FnExactAntipodeOfSaid : Prop := fnExactAntipodeOfRow.holds Try.pinned (OpenSpec.ofChange fnExactAntipodeOfSpec)

/-- ITS FALSE NEIGHBOUR: 'it returns false'. Refute it at one input. -/
def fnExactAntipodeOfWrong : ChangeSpec := { name := "fnExactAntipodeOf", fn := fun _ => fun
  | [d] => { results := [.lit (.bool false)], args := [d] }
  | _ => none }
def FnExactAntipodeOfWrongFalsely : Prop := fnExactAntipodeOfRow.holds Try.pinned (OpenSpec.ofChange fnExactAntipodeOfWrong)

/-- 'laws.FnExactReversalOf': WHATEVER THE INPUT: true; the input reads as it did. -/
def fnExactReversalOfSpec : ChangeSpec := { name := "fnExactReversalOf", fn := fun _ => fun
  | [d] => { results := [.lit (.bool true)], args := [d] }
  | _ => none }
def fnExactReversalOfRow : OpenClaim := { program := "ytcklblagklojhaa", sum := "dac7a314d4e26a06ea004a3f3625ba04b3900e240ad3e14184bdabbb4fa6428b", func := "loop.example/g01260/laws.FnExactReversalOf", spec := "fnExactReversalOf", inPlace := ["internal/bytealg.abigen_runtime_cmpstring"], apart := false }
def FnExactReversalOfSaid : Prop := fnExactReversalOfRow.holds Try.pinned (OpenSpec.ofChange fnExactReversalOfSpec)

/-- ITS FALSE NEIGHBOUR: 'it returns false'. Refute it at one input. -/
def fnExactReversalOfWrong : ChangeSpec := { name := "fnExactReversalOf", fn := fun _ => fun
  | [d] => { results := [.lit (.bool false)], args := [d] }
  | _ => none }
def FnExactReversalOfWrongFalsely : Prop := fnExactReversalOfRow.holds Try.pinned (OpenSpec.ofChange fnExactReversalOfWrong)

/-- 'laws.FnExactValueAtShuffle': WHATEVER THE INPUT: true; the input reads as it did. -/
def fnExactValueAtShuffleSpec : ChangeSpec := { name := "fnExactValueAtShuffle", fn := fun _ => fun
  | [d1, d2, d3] => { results := [.lit (.bool true)], args := [d1, d2, d3] }
  | _ => none }
def fnExactValueAtShuffleRow : OpenClaim := { program := "ytcklblagklojhaa", sum := "dac7a314d4e26a06ea004a3f3625ba04b3900e240ad3e14184bdabbb4fa6428b", func := "loop.example/g01260/laws.FnExactValueAtShuffle", spec := "fnExactValueAtShuffle", inPlace := ["internal/bytealg.abigen_runtime_cmpstring"], recurses := true, apart := false }
def FnExactValueAtShuffleSaid : Prop := fnExactValueAtShuffleRow.holds Try.pinned (OpenSpec.ofChange fnExactValueAtShuffleSpec)

/-- ITS FALSE NEIGHBOUR: 'it returns false'. Refute it at one input. -/
def fnExactValueAtShuffleWrong : ChangeSpec := { name := "fnExactValueAtShuffle", fn := fun _ => fun
  | [d1, d2, d3] => { results := [.lit (.bool false)], args := [d1, d2, d3] }
  | _ => none }
def FnExactValueAtShuffleWrongFalsely : Prop := fnExactValueAtShuffleRow.holds Try.pinned (OpenSpec.ofChange fnExactValueAtShuffleWrong)

/-- 'laws.FnExactAddSeries': WHATEVER THE INPUT: true; the input reads as it did. -/
def fnExactAddSeriesSpec : ChangeSpec := { name := "fnExactAddSeries", fn := fun _ => fun
  | [d1, d2] => { results := [.lit (.bool true)], args := [d1, d2] }
  | _ => none }
def fnExactAddSeriesRow : OpenClaim := { program := "ytcklblagklojhaa", sum := "dac7a314d4e26a06ea004a3f3625ba04b3900e240ad3e14184bdabbb4fa6428b", func := "loop.example/g01260/laws.FnExactAddSeries", spec := "fnExactAddSeries", inPlace := ["internal/bytealg.abigen_runtime_cmpstring"], apart := false }
def FnExactAddSeriesSaid : Prop := fnExactAddSeriesRow.holds Try.pinned (OpenSpec.ofChange fnExactAddSeriesSpec)

/-- ITS FALSE NEIGHBOUR: 'it returns false'. Refute it at one input. -/
def fnExactAddSeriesWrong : ChangeSpec := { name := "fnExactAddSeries", fn := fun _ => fun
  | [d1, d2] => { results := [.lit (.bool false)], args := [d1, d2] }
  | _ => none }
def FnExactAddSeriesWrongFalsely : Prop := fnExactAddSeriesRow.holds Try.pinned (OpenSpec.ofChange fnExactAddSeriesWrong)

/-- 'laws.FnExactMultiplySeries': WHATEVER THE INPUT: true; the input reads as it did. -/
def fnExactMultiplySeriesSpec : ChangeSpec := { name := "fnExactMultiplySeries", fn := fun _ => fun
  | [d1, d2] => { results := [.lit (.bool true)], args := [d1, d2] }
  | _ => none }
def fnExactMultiplySeriesRow : OpenClaim := { program := "ytcklblagklojhaa", sum := "dac7a314d4e26a06ea004a3f3625ba04b3900e240ad3e14184bdabbb4fa6428b", func := "loop.example/g01260/laws.FnExactMultiplySeries", spec := "fnExactMultiplySeries", inPlace := ["internal/bytealg.abigen_runtime_cmpstring"], apart := false }
def FnExactMultiplySeriesSaid : Prop := fnExactMultiplySeriesRow.holds Try.pinned (OpenSpec.ofChange fnExactMultiplySeriesSpec)

/-- ITS FALSE NEIGHBOUR: 'it returns false'. Refute it at one input. -/
def fnExactMultiplySeriesWrong : ChangeSpec := { name := "fnExactMultiplySeries", fn := fun _ => fun
  | [d1, d2] => { results := [.lit (.bool false)], args := [d1, d2] }
  | _ => none }
def FnExactMultiplySeriesWrongFalsely : Prop := fnExactMultiplySeriesRow.holds Try.pinned (OpenSpec.ofChange fnExactMultiplySeriesWrong)

/-- 'laws.FnExactIsLieSeries': WHATEVER THE INPUT: true; the input reads as it did. -/
def fnExactIsLieSeriesSpec : ChangeSpec := { name := "fnExactIsLieSeries", fn := fun _ => fun
  | [d] => { results := [.lit (.bool true)], args := [d] }
  | _ => none }
def fnExactIsLieSeriesRow : OpenClaim := { program := "ytcklblagklojhaa", sum := "dac7a314d4e26a06ea004a3f3625ba04b3900e240ad3e14184bdabbb4fa6428b", func := "loop.example/g01260/laws.FnExactIsLieSeries", spec := "fnExactIsLieSeries", inPlace := ["internal/bytealg.abigen_runtime_cmpstring"], unfollowed := true, recurses := true, apart := false }
def FnExactIsLieSeriesSaid : Prop := fnExactIsLieSeriesRow.holds Try.pinned (OpenSpec.ofChange fnExactIsLieSeriesSpec)

/-- ITS FALSE NEIGHBOUR: 'it returns false'. Refute it at one input. -/
def fnExactIsLieSeriesWrong : ChangeSpec := { name := "fnExactIsLieSeries", fn := fun _ => fun
  | [d] => { results := [.lit (.bool false)], args := [d] }
  | _ => none }
def FnExactIsLieSeriesWrongFalsely : Prop := fnExactIsLieSeriesRow.holds Try.pinned (OpenSpec.ofChange fnExactIsLieSeriesWrong)

/-- 'laws.FnExactPowerSeries': WHATEVER THE INPUT: true; the input reads as it did. -/
def fnExactPowerSeriesSpec : ChangeSpec := { name := "fnExactPowerSeries", fn := fun _ => fun
  | [d1, d2] => { results := [.lit (.bool true)], args := [d1, d2] }
  | _ => none }
def fnExactPowerSeriesRow : OpenClaim := { program := "ytcklblagklojhaa", sum := "dac7a314d4e26a06ea004a3f3625ba04b3900e240ad3e14184bdabbb4fa6428b", func := "loop.example/g01260/laws.FnExactPowerSeries", spec := "fnExactPowerSeries", inPlace := ["internal/bytealg.abigen_runtime_cmpstring"], apart := false }
def FnExactPowerSeriesSaid : Prop := fnExactPowerSeriesRow.holds Try.pinned (OpenSpec.ofChange fnExactPowerSeriesSpec)

/-- ITS FALSE NEIGHBOUR: 'it returns false'. Refute it at one input. -/
def fnExactPowerSeriesWrong : ChangeSpec := { name := "fnExactPowerSeries", fn := fun _ => fun
  | [d1, d2] => { results := [.lit (.bool false)], args := [d1, d2] }
  | _ => none }
def FnExactPowerSeriesWrongFalsely : Prop := fnExactPowerSeriesRow.holds Try.pinned (OpenSpec.ofChange fnExactPowerSeriesWrong)

/-- 'laws.FnExactIsGroupLike': WHATEVER THE INPUT: true; the input reads as it did. -/
def fnExactIsGroupLikeSpec : ChangeSpec := { name := "fnExactIsGroupLike", fn := fun _ => fun
  | [d] => { results := [.lit (.bool true)], args := [d] }
  | _ => none }
def fnExactIsGroupLikeRow : OpenClaim := { program := "ytcklblagklojhaa", sum := "dac7a314d4e26a06ea004a3f3625ba04b3900e240ad3e14184bdabbb4fa6428b", func := "loop.example/g01260/laws.FnExactIsGroupLike", spec := "fnExactIsGroupLike", inPlace := ["internal/bytealg.abigen_runtime_cmpstring"], unfollowed := true, recurses := true, apart := false }
def FnExactIsGroupLikeSaid : Prop := fnExactIsGroupLikeRow.holds Try.pinned (OpenSpec.ofChange fnExactIsGroupLikeSpec)

/-- ITS FALSE NEIGHBOUR: 'it returns false'. Refute it at one input. -/
def fnExactIsGroupLikeWrong : ChangeSpec := { name := "fnExactIsGroupLike", fn := fun _ => fun
  | [d] => { results := [.lit (.bool false)], args := [d] }
  | _ => none }
def FnExactIsGroupLikeWrongFalsely : Prop := fnExactIsGroupLikeRow.holds Try.pinned (OpenSpec.ofChange fnExactIsGroupLikeWrong)

/-- 'laws.FnExactCommutatorOf': WHATEVER THE INPUT: true; the input reads as it did. -/
def fnExactCommutatorOfSpec : ChangeSpec := { name := "fnExactCommutatorOf", fn := fun _ => fun
  | [d1, d2] => { results := [.lit (.bool true)], args := [d1, d2] }
  | _ => none }
def fnExactCommutatorOfRow : OpenClaim := { program := "ytcklblagklojhaa", sum := "dac7a314d4e26a06ea004a3f3625ba04b3900e240ad3e14184bdabbb4fa6428b", func := "loop.example/g01260/laws.FnExactCommutatorOf", spec := "fnExactCommutatorOf", inPlace := ["internal/bytealg.abigen_runtime_cmpstring"], apart := false }
def FnExactCommutatorOfSaid : Prop := fnExactCommutatorOfRow.holds Try.pinned (OpenSpec.ofChange fnExactCommutatorOfSpec)

/-- ITS FALSE NEIGHBOUR: 'it returns false'. Refute it at one input. -/
def fnExactCommutatorOfWrong : ChangeSpec := { name := "fnExactCommutatorOf", fn := fun _ => fun
  | [d1, d2] => { results := [.lit (.bool false)], args := [d1, d2] }
  | _ => none }
def FnExactCommutatorOfWrongFalsely : Prop := fnExactCommutatorOfRow.holds Try.pinned (OpenSpec.ofChange fnExactCommutatorOfWrong)

/-- 'laws.FnExactShuffleSeries': WHATEVER THE INPUT: true; the input reads as it did. -/
def fnExactShuffleSeriesSpec : ChangeSpec := { name := "fnExactShuffleSeries", fn := fun _ => fun
  | [d1, d2] => { results := [.lit (.bool true)], args := [d1, d2] }
  | _ => none }
def fnExactShuffleSeriesRow : OpenClaim := { program := "ytcklblagklojhaa", sum := "dac7a314d4e26a06ea004a3f3625ba04b3900e240ad3e14184bdabbb4fa6428b", func := "loop.example/g01260/laws.FnExactShuffleSeries", spec := "fnExactShuffleSeries", inPlace := ["internal/bytealg.abigen_runtime_cmpstring"], unfollowed := true, recurses := true, apart := false }
def FnExactShuffleSeriesSaid : Prop := fnExactShuffleSeriesRow.holds Try.pinned (OpenSpec.ofChange fnExactShuffleSeriesSpec)

/-- ITS FALSE NEIGHBOUR: 'it returns false'. Refute it at one input. -/
def fnExactShuffleSeriesWrong : ChangeSpec := { name := "fnExactShuffleSeries", fn := fun _ => fun
  | [d1, d2] => { results := [.lit (.bool false)], args := [d1, d2] }
  | _ => none }
def FnExactShuffleSeriesWrongFalsely : Prop := fnExactShuffleSeriesRow.holds Try.pinned (OpenSpec.ofChange fnExactShuffleSeriesWrong)

/-- 'laws.FnExactHalfShuffle': WHATEVER THE INPUT: true; the input reads as it did. -/
def fnExactHalfShuffleSpec : ChangeSpec := { name := "fnExactHalfShuffle", fn := fun _ => fun
  | [d1, d2] => { results := [.lit (.bool true)], args := [d1, d2] }
  | _ => none }
def fnExactHalfShuffleRow : OpenClaim := { program := "ytcklblagklojhaa", sum := "dac7a314d4e26a06ea004a3f3625ba04b3900e240ad3e14184bdabbb4fa6428b", func := "loop.example/g01260/laws.FnExactHalfShuffle", spec := "fnExactHalfShuffle", inPlace := ["internal/bytealg.abigen_runtime_cmpstring"], unfollowed := true, recurses := true, apart := false }
def FnExactHalfShuffleSaid : Prop := fnExactHalfShuffleRow.holds Try.pinned (OpenSpec.ofChange fnExactHalfShuffleSpec)

/-- ITS FALSE NEIGHBOUR: 'it returns false'. Refute it at one input. -/
def fnExactHalfShuffleWrong : ChangeSpec := { name := "fnExactHalfShuffle", fn := fun _ => fun
  | [d1, d2] => { results := [.lit (.bool false)], args := [d1, d2] }
  | _ => none }
def FnExactHalfShuffleWrongFalsely : Prop := fnExactHalfShuffleRow.holds Try.pinned (OpenSpec.ofChange fnExactHalfShuffleWrong)

/-- 'laws.FnExactExponentialOf': WHATEVER THE INPUT: true; the input reads as it did. -/
def fnExactExponentialOfSpec : ChangeSpec := { name := "fnExactExponentialOf", fn := fun _ => fun
  | [d] => { results := [.lit (.bool true)], args := [d] }
  | _ => none }
def fnExactExponentialOfRow : OpenClaim := { program := "ytcklblagklojhaa", sum := "dac7a314d4e26a06ea004a3f3625ba04b3900e240ad3e14184bdabbb4fa6428b", func := "loop.example/g01260/laws.FnExactExponentialOf", spec := "fnExactExponentialOf", inPlace := ["internal/bytealg.abigen_runtime_cmpstring"], unfollowed := true, recurses := true, apart := false }
def FnExactExponentialOfSaid : Prop := fnExactExponentialOfRow.holds Try.pinned (OpenSpec.ofChange fnExactExponentialOfSpec)

/-- ITS FALSE NEIGHBOUR: 'it returns false'. Refute it at one input. -/
def fnExactExponentialOfWrong : ChangeSpec := { name := "fnExactExponentialOf", fn := fun _ => fun
  | [d] => { results := [.lit (.bool false)], args := [d] }
  | _ => none }
def FnExactExponentialOfWrongFalsely : Prop := fnExactExponentialOfRow.holds Try.pinned (OpenSpec.ofChange fnExactExponentialOfWrong)

/-- 'laws.FnExactShufflePower': WHATEVER THE INPUT: true; the input reads as it did. -/
def fnExactShufflePowerSpec : ChangeSpec := { name := "fnExactShufflePower", fn := fun _ => fun
  | [d1, d2] => { results := [.lit (.bool true)], args := [d1, d2] }
  | _ => none }
def fnExactShufflePowerRow : OpenClaim := { program := "ytcklblagklojhaa", sum := "dac7a314d4e26a06ea004a3f3625ba04b3900e240ad3e14184bdabbb4fa6428b", func := "loop.example/g01260/laws.FnExactShufflePower", spec := "fnExactShufflePower", inPlace := ["internal/bytealg.abigen_runtime_cmpstring"], unfollowed := true, recurses := true, apart := false }
def FnExactShufflePowerSaid : Prop := fnExactShufflePowerRow.holds Try.pinned (OpenSpec.ofChange fnExactShufflePowerSpec)

/-- ITS FALSE NEIGHBOUR: 'it returns false'. Refute it at one input. -/
def fnExactShufflePowerWrong : ChangeSpec := { name := "fnExactShufflePower", fn := fun _ => fun
  | [d1, d2] => { results := [.lit (.bool false)], args := [d1, d2] }
  | _ => none }
def FnExactShufflePowerWrongFalsely : Prop := fnExactShufflePowerRow.holds Try.pinned (OpenSpec.ofChange fnExactShufflePowerWrong)

/-- 'laws.FnExactLogarithmOf': WHATEVER THE INPUT: true; the input reads as it did. -/
def fnExactLogarithmOfSpec : ChangeSpec := { name := "fnExactLogarithmOf", fn := fun _ => fun
  | [d] => { results := [.lit (.bool true)], args := [d] }
  | _ => none }
def fnExactLogarithmOfRow : OpenClaim := { program := "ytcklblagklojhaa", sum := "dac7a314d4e26a06ea004a3f3625ba04b3900e240ad3e14184bdabbb4fa6428b", func := "loop.example/g01260/laws.FnExactLogarithmOf", spec := "fnExactLogarithmOf", inPlace := ["internal/bytealg.abigen_runtime_cmpstring"], unfollowed := true, recurses := true, apart := false }
def FnExactLogarithmOfSaid : Prop := fnExactLogarithmOfRow.holds Try.pinned (OpenSpec.ofChange fnExactLogarithmOfSpec)

/-- ITS FALSE NEIGHBOUR: 'it returns false'. Refute it at one input. -/
def fnExactLogarithmOfWrong : ChangeSpec := { name := "fnExactLogarithmOf", fn := fun _ => fun
  | [d] => { results := [.lit (.bool false)], args := [d] }
  | _ => none }
def FnExactLogarithmOfWrongFalsely : Prop := fnExactLogarithmOfRow.holds Try.pinned (OpenSpec.ofChange fnExactLogarithmOfWrong)

/-- 'laws.FnExactInverseSeries': WHATEVER THE INPUT: true; the input reads as it did. -/
def fnExactInverseSeriesSpec : ChangeSpec := { name := "fnExactInverseSeries", fn := fun _ => fun
  | [d] => { results := [.lit (.bool true)], args := [d] }
  | _ => none }
def fnExactInverseSeriesRow : OpenClaim := { program := "ytcklblagklojhaa", sum := "dac7a314d4e26a06ea004a3f3625ba04b3900e240ad3e14184bdabbb4fa6428b", func := "loop.example/g01260/laws.FnExactInverseSeries", spec := "fnExactInverseSeries", inPlace := ["internal/bytealg.abigen_runtime_cmpstring"], unfollowed := true, recurses := true, apart := false }
def FnExactInverseSeriesSaid : Prop := fnExactInverseSeriesRow.holds Try.pinned (OpenSpec.ofChange fnExactInverseSeriesSpec)

/-- ITS FALSE NEIGHBOUR: 'it returns false'. Refute it at one input. -/
def fnExactInverseSeriesWrong : ChangeSpec := { name := "fnExactInverseSeries", fn := fun _ => fun
  | [d] => { results := [.lit (.bool false)], args := [d] }
  | _ => none }
def FnExactInverseSeriesWrongFalsely : Prop := fnExactInverseSeriesRow.holds Try.pinned (OpenSpec.ofChange fnExactInverseSeriesWrong)

/- THE SECOND FORM. 'bulk': how many values and letters a reading holds, each counted each time it is reached (what is shared counts as often as it is met; a slice's spare places count too). A statement '..UptoSaid' is the law's where the arguments, and the package variables that the reading takes, are together of bulk at most 1048576: NARROWER than '..Said'. Prove '..Said' where nothing that the law and all that it calls make is longer than what came in: it says more and counts as full. Else prove '..UptoSaid'. A law counts once. -/
mutual
def uptoBulk {H : Type} : DataW H → Nat
  | .lit (.string bytes) => bytes.length + 1
  | .lit _ => 1
  | .nil => 1
  | .ptr d => uptoBulk d + 1
  | .slice elems spare => uptoBulkAll elems + uptoBulkAll spare + 1
  | .agg parts => uptoBulkAll parts + 1
  | .iface _ d => uptoBulk d + 1
  | .map entries => uptoBulkEntries entries + 1
  | .held _ => 1
def uptoBulkAll {H : Type} : List (DataW H) → Nat
  | [] => 0
  | d :: r => uptoBulk d + uptoBulkAll r
def uptoBulkEntries {H : Type} : List (Lit × DataW H) → Nat
  | [] => 0
  | x :: r => uptoBulkEntry x + uptoBulkEntries r
def uptoBulkEntry {H : Type} : Lit × DataW H → Nat
  | (.string bytes, d) => bytes.length + uptoBulk d + 1
  | (_, d) => uptoBulk d + 1
 end
def uptoSmall : (H : Type) → List (DataW H) → Bool := fun _ ds => decide (uptoBulkAll ds ≤ 1048576)
def OpenSpec.upto (s : _root_.Go.ChangeSpec) : _root_.Go.OpenSpec := { _root_.Go.OpenSpec.ofChange s with cond := some uptoSmall }

/-- 'laws.FnExactDivideFractions', WHERE WHAT IT READS IS OF BULK AT MOST 1048576: true; the input reads as it did. -/
def fnExactDivideFractionsUptoRow : OpenClaim := { program := "ytcklblagklojhaa", sum := "dac7a314d4e26a06ea004a3f3625ba04b3900e240ad3e14184bdabbb4fa6428b", func := "loop.example/g01260/laws.FnExactDivideFractions", spec := "fnExactDivideFractions", unfollowed := true, recurses := true, apart := false, narrowed := true }
def FnExactDivideFractionsUptoSaid : Prop := fnExactDivideFractionsUptoRow.holds Try.pinned (OpenSpec.upto fnExactDivideFractionsSpec)

/-- 'laws.FnExactLetterSeries', WHERE WHAT IT READS IS OF BULK AT MOST 1048576: true; the input reads as it did. -/
def fnExactLetterSeriesUptoRow : OpenClaim := { program := "ytcklblagklojhaa", sum := "dac7a314d4e26a06ea004a3f3625ba04b3900e240ad3e14184bdabbb4fa6428b", func := "loop.example/g01260/laws.FnExactLetterSeries", spec := "fnExactLetterSeries", apart := false, narrowed := true }
def FnExactLetterSeriesUptoSaid : Prop := fnExactLetterSeriesUptoRow.holds Try.pinned (OpenSpec.upto fnExactLetterSeriesSpec)

/-- 'laws.FnExactIsSeries', WHERE WHAT IT READS IS OF BULK AT MOST 1048576: true; the input reads as it did. -/
def fnExactIsSeriesUptoRow : OpenClaim := { program := "ytcklblagklojhaa", sum := "dac7a314d4e26a06ea004a3f3625ba04b3900e240ad3e14184bdabbb4fa6428b", func := "loop.example/g01260/laws.FnExactIsSeries", spec := "fnExactIsSeries", inPlace := ["internal/bytealg.abigen_runtime_cmpstring"], apart := false, narrowed := true }
def FnExactIsSeriesUptoSaid : Prop := fnExactIsSeriesUptoRow.holds Try.pinned (OpenSpec.upto fnExactIsSeriesSpec)

/-- 'laws.FnExactUnitSeries', WHERE WHAT IT READS IS OF BULK AT MOST 1048576: true; the input reads as it did. -/
def fnExactUnitSeriesUptoRow : OpenClaim := { program := "ytcklblagklojhaa", sum := "dac7a314d4e26a06ea004a3f3625ba04b3900e240ad3e14184bdabbb4fa6428b", func := "loop.example/g01260/laws.FnExactUnitSeries", spec := "fnExactUnitSeries", apart := false, narrowed := true }
def FnExactUnitSeriesUptoSaid : Prop := fnExactUnitSeriesUptoRow.holds Try.pinned (OpenSpec.upto fnExactUnitSeriesSpec)

/-- 'laws.FnExactTruncateSeries', WHERE WHAT IT READS IS OF BULK AT MOST 1048576: true; the input reads as it did. -/
def fnExactTruncateSeriesUptoRow : OpenClaim := { program := "ytcklblagklojhaa", sum := "dac7a314d4e26a06ea004a3f3625ba04b3900e240ad3e14184bdabbb4fa6428b", func := "loop.example/g01260/laws.FnExactTruncateSeries", spec := "fnExactTruncateSeries", inPlace := ["internal/bytealg.abigen_runtime_cmpstring"], unfollowed := true, recurses := true, apart := false, narrowed := true }
def FnExactTruncateSeriesUptoSaid : Prop := fnExactTruncateSeriesUptoRow.holds Try.pinned (OpenSpec.upto fnExactTruncateSeriesSpec)

/-- 'laws.FnExactPartOf', WHERE WHAT IT READS IS OF BULK AT MOST 1048576: true; the input reads as it did. -/
def fnExactPartOfUptoRow : OpenClaim := { program := "ytcklblagklojhaa", sum := "dac7a314d4e26a06ea004a3f3625ba04b3900e240ad3e14184bdabbb4fa6428b", func := "loop.example/g01260/laws.FnExactPartOf", spec := "fnExactPartOf", inPlace := ["internal/bytealg.abigen_runtime_cmpstring"], unfollowed := true, recurses := true, apart := false, narrowed := true }
def FnExactPartOfUptoSaid : Prop := fnExactPartOfUptoRow.holds Try.pinned (OpenSpec.upto fnExactPartOfSpec)

/-- 'laws.FnExactConstantOf', WHERE WHAT IT READS IS OF BULK AT MOST 1048576: true; the input reads as it did. -/
def fnExactConstantOfUptoRow : OpenClaim := { program := "ytcklblagklojhaa", sum := "dac7a314d4e26a06ea004a3f3625ba04b3900e240ad3e14184bdabbb4fa6428b", func := "loop.example/g01260/laws.FnExactConstantOf", spec := "fnExactConstantOf", inPlace := ["internal/bytealg.abigen_runtime_cmpstring"], apart := false, narrowed := true }
def FnExactConstantOfUptoSaid : Prop := fnExactConstantOfUptoRow.holds Try.pinned (OpenSpec.upto fnExactConstantOfSpec)

/-- 'laws.FnExactCoefficientOf', WHERE WHAT IT READS IS OF BULK AT MOST 1048576: true; the input reads as it did. -/
def fnExactCoefficientOfUptoRow : OpenClaim := { program := "ytcklblagklojhaa", sum := "dac7a314d4e26a06ea004a3f3625ba04b3900e240ad3e14184bdabbb4fa6428b", func := "loop.example/g01260/laws.FnExactCoefficientOf", spec := "fnExactCoefficientOf", inPlace := ["internal/bytealg.abigen_runtime_cmpstring"], apart := false, narrowed := true }
def FnExactCoefficientOfUptoSaid : Prop := fnExactCoefficientOfUptoRow.holds Try.pinned (OpenSpec.upto fnExactCoefficientOfSpec)

/-- 'laws.FnExactShuffleWords', WHERE WHAT IT READS IS OF BULK AT MOST 1048576: true; the input reads as it did. -/
def fnExactShuffleWordsUptoRow : OpenClaim := { program := "ytcklblagklojhaa", sum := "dac7a314d4e26a06ea004a3f3625ba04b3900e240ad3e14184bdabbb4fa6428b", func := "loop.example/g01260/laws.FnExactShuffleWords", spec := "fnExactShuffleWords", unfollowed := true, recurses := true, apart := false, narrowed := true }
def FnExactShuffleWordsUptoSaid : Prop := fnExactShuffleWordsUptoRow.holds Try.pinned (OpenSpec.upto fnExactShuffleWordsSpec)

/-- 'laws.FnExactPairSeries', WHERE WHAT IT READS IS OF BULK AT MOST 1048576: true; the input reads as it did. -/
def fnExactPairSeriesUptoRow : OpenClaim := { program := "ytcklblagklojhaa", sum := "dac7a314d4e26a06ea004a3f3625ba04b3900e240ad3e14184bdabbb4fa6428b", func := "loop.example/g01260/laws.FnExactPairSeries", spec := "fnExactPairSeries", inPlace := ["internal/bytealg.abigen_runtime_cmpstring"], apart := false, narrowed := true }
def FnExactPairSeriesUptoSaid : Prop := fnExactPairSeriesUptoRow.holds Try.pinned (OpenSpec.upto fnExactPairSeriesSpec)

/-- 'laws.FnExactPutTerm', WHERE WHAT IT READS IS OF BULK AT MOST 1048576: true; the input reads as it did. -/
def fnExactPutTermUptoRow : OpenClaim := { program := "ytcklblagklojhaa", sum := "dac7a314d4e26a06ea004a3f3625ba04b3900e240ad3e14184bdabbb4fa6428b", func := "loop.example/g01260/laws.FnExactPutTerm", spec := "fnExactPutTerm", inPlace := ["internal/bytealg.abigen_runtime_cmpstring"], apart := false, narrowed := true }
def FnExactPutTermUptoSaid : Prop := fnExactPutTermUptoRow.holds Try.pinned (OpenSpec.upto fnExactPutTermSpec)

/-- 'laws.FnExactScaleSeries', WHERE WHAT IT READS IS OF BULK AT MOST 1048576: true; the input reads as it did. -/
def fnExactScaleSeriesUptoRow : OpenClaim := { program := "ytcklblagklojhaa", sum := "dac7a314d4e26a06ea004a3f3625ba04b3900e240ad3e14184bdabbb4fa6428b", func := "loop.example/g01260/laws.FnExactScaleSeries", spec := "fnExactScaleSeries", inPlace := ["internal/bytealg.abigen_runtime_cmpstring"], apart := false, narrowed := true }
def FnExactScaleSeriesUptoSaid : Prop := fnExactScaleSeriesUptoRow.holds Try.pinned (OpenSpec.upto fnExactScaleSeriesSpec)

/-- 'laws.FnExactAntipodeOf', WHERE WHAT IT READS IS OF BULK AT MOST 1048576: true; the input reads as it did. -/
def fnExactAntipodeOfUptoRow : OpenClaim := { program := "ytcklblagklojhaa", sum := "dac7a314d4e26a06ea004a3f3625ba04b3900e240ad3e14184bdabbb4fa6428b", func := "loop.example/g01260/laws.FnExactAntipodeOf", spec := "fnExactAntipodeOf", inPlace := ["internal/bytealg.abigen_runtime_cmpstring"], apart := false, narrowed := true }
def FnExactAntipodeOfUptoSaid : Prop := fnExactAntipodeOfUptoRow.holds Try.pinned (OpenSpec.upto fnExactAntipodeOfSpec)

/-- 'laws.FnExactReversalOf', WHERE WHAT IT READS IS OF BULK AT MOST 1048576: true; the input reads as it did. -/
def fnExactReversalOfUptoRow : OpenClaim := { program := "ytcklblagklojhaa", sum := "dac7a314d4e26a06ea004a3f3625ba04b3900e240ad3e14184bdabbb4fa6428b", func := "loop.example/g01260/laws.FnExactReversalOf", spec := "fnExactReversalOf", inPlace := ["internal/bytealg.abigen_runtime_cmpstring"], apart := false, narrowed := true }
def FnExactReversalOfUptoSaid : Prop := fnExactReversalOfUptoRow.holds Try.pinned (OpenSpec.upto fnExactReversalOfSpec)

/-- 'laws.FnExactValueAtShuffle', WHERE WHAT IT READS IS OF BULK AT MOST 1048576: true; the input reads as it did. -/
def fnExactValueAtShuffleUptoRow : OpenClaim := { program := "ytcklblagklojhaa", sum := "dac7a314d4e26a06ea004a3f3625ba04b3900e240ad3e14184bdabbb4fa6428b", func := "loop.example/g01260/laws.FnExactValueAtShuffle", spec := "fnExactValueAtShuffle", inPlace := ["internal/bytealg.abigen_runtime_cmpstring"], recurses := true, apart := false, narrowed := true }
def FnExactValueAtShuffleUptoSaid : Prop := fnExactValueAtShuffleUptoRow.holds Try.pinned (OpenSpec.upto fnExactValueAtShuffleSpec)

/-- 'laws.FnExactAddSeries', WHERE WHAT IT READS IS OF BULK AT MOST 1048576: true; the input reads as it did. -/
def fnExactAddSeriesUptoRow : OpenClaim := { program := "ytcklblagklojhaa", sum := "dac7a314d4e26a06ea004a3f3625ba04b3900e240ad3e14184bdabbb4fa6428b", func := "loop.example/g01260/laws.FnExactAddSeries", spec := "fnExactAddSeries", inPlace := ["internal/bytealg.abigen_runtime_cmpstring"], apart := false, narrowed := true }
def FnExactAddSeriesUptoSaid : Prop := fnExactAddSeriesUptoRow.holds Try.pinned (OpenSpec.upto fnExactAddSeriesSpec)

/-- 'laws.FnExactMultiplySeries', WHERE WHAT IT READS IS OF BULK AT MOST 1048576: true; the input reads as it did. -/
def fnExactMultiplySeriesUptoRow : OpenClaim := { program := "ytcklblagklojhaa", sum := "dac7a314d4e26a06ea004a3f3625ba04b3900e240ad3e14184bdabbb4fa6428b", func := "loop.example/g01260/laws.FnExactMultiplySeries", spec := "fnExactMultiplySeries", inPlace := ["internal/bytealg.abigen_runtime_cmpstring"], apart := false, narrowed := true }
def FnExactMultiplySeriesUptoSaid : Prop := fnExactMultiplySeriesUptoRow.holds Try.pinned (OpenSpec.upto fnExactMultiplySeriesSpec)

/-- 'laws.FnExactIsLieSeries', WHERE WHAT IT READS IS OF BULK AT MOST 1048576: true; the input reads as it did. -/
def fnExactIsLieSeriesUptoRow : OpenClaim := { program := "ytcklblagklojhaa", sum := "dac7a314d4e26a06ea004a3f3625ba04b3900e240ad3e14184bdabbb4fa6428b", func := "loop.example/g01260/laws.FnExactIsLieSeries", spec := "fnExactIsLieSeries", inPlace := ["internal/bytealg.abigen_runtime_cmpstring"], unfollowed := true, recurses := true, apart := false, narrowed := true }
def FnExactIsLieSeriesUptoSaid : Prop := fnExactIsLieSeriesUptoRow.holds Try.pinned (OpenSpec.upto fnExactIsLieSeriesSpec)

/-- 'laws.FnExactPowerSeries', WHERE WHAT IT READS IS OF BULK AT MOST 1048576: true; the input reads as it did. -/
def fnExactPowerSeriesUptoRow : OpenClaim := { program := "ytcklblagklojhaa", sum := "dac7a314d4e26a06ea004a3f3625ba04b3900e240ad3e14184bdabbb4fa6428b", func := "loop.example/g01260/laws.FnExactPowerSeries", spec := "fnExactPowerSeries", inPlace := ["internal/bytealg.abigen_runtime_cmpstring"], apart := false, narrowed := true }
def FnExactPowerSeriesUptoSaid : Prop := fnExactPowerSeriesUptoRow.holds Try.pinned (OpenSpec.upto fnExactPowerSeriesSpec)

/-- 'laws.FnExactIsGroupLike', WHERE WHAT IT READS IS OF BULK AT MOST 1048576: true; the input reads as it did. -/
def fnExactIsGroupLikeUptoRow : OpenClaim := { program := "ytcklblagklojhaa", sum := "dac7a314d4e26a06ea004a3f3625ba04b3900e240ad3e14184bdabbb4fa6428b", func := "loop.example/g01260/laws.FnExactIsGroupLike", spec := "fnExactIsGroupLike", inPlace := ["internal/bytealg.abigen_runtime_cmpstring"], unfollowed := true, recurses := true, apart := false, narrowed := true }
def FnExactIsGroupLikeUptoSaid : Prop := fnExactIsGroupLikeUptoRow.holds Try.pinned (OpenSpec.upto fnExactIsGroupLikeSpec)

/-- 'laws.FnExactCommutatorOf', WHERE WHAT IT READS IS OF BULK AT MOST 1048576: true; the input reads as it did. -/
def fnExactCommutatorOfUptoRow : OpenClaim := { program := "ytcklblagklojhaa", sum := "dac7a314d4e26a06ea004a3f3625ba04b3900e240ad3e14184bdabbb4fa6428b", func := "loop.example/g01260/laws.FnExactCommutatorOf", spec := "fnExactCommutatorOf", inPlace := ["internal/bytealg.abigen_runtime_cmpstring"], apart := false, narrowed := true }
def FnExactCommutatorOfUptoSaid : Prop := fnExactCommutatorOfUptoRow.holds Try.pinned (OpenSpec.upto fnExactCommutatorOfSpec)

/-- 'laws.FnExactShuffleSeries', WHERE WHAT IT READS IS OF BULK AT MOST 1048576: true; the input reads as it did. -/
def fnExactShuffleSeriesUptoRow : OpenClaim := { program := "ytcklblagklojhaa", sum := "dac7a314d4e26a06ea004a3f3625ba04b3900e240ad3e14184bdabbb4fa6428b", func := "loop.example/g01260/laws.FnExactShuffleSeries", spec := "fnExactShuffleSeries", inPlace := ["internal/bytealg.abigen_runtime_cmpstring"], unfollowed := true, recurses := true, apart := false, narrowed := true }
def FnExactShuffleSeriesUptoSaid : Prop := fnExactShuffleSeriesUptoRow.holds Try.pinned (OpenSpec.upto fnExactShuffleSeriesSpec)

/-- 'laws.FnExactHalfShuffle', WHERE WHAT IT READS IS OF BULK AT MOST 1048576: true; the input reads as it did. -/
def fnExactHalfShuffleUptoRow : OpenClaim := { program := "ytcklblagklojhaa", sum := "dac7a314d4e26a06ea004a3f3625ba04b3900e240ad3e14184bdabbb4fa6428b", func := "loop.example/g01260/laws.FnExactHalfShuffle", spec := "fnExactHalfShuffle", inPlace := ["internal/bytealg.abigen_runtime_cmpstring"], unfollowed := true, recurses := true, apart := false, narrowed := true }
def FnExactHalfShuffleUptoSaid : Prop := fnExactHalfShuffleUptoRow.holds Try.pinned (OpenSpec.upto fnExactHalfShuffleSpec)

/-- 'laws.FnExactExponentialOf', WHERE WHAT IT READS IS OF BULK AT MOST 1048576: true; the input reads as it did. -/
def fnExactExponentialOfUptoRow : OpenClaim := { program := "ytcklblagklojhaa", sum := "dac7a314d4e26a06ea004a3f3625ba04b3900e240ad3e14184bdabbb4fa6428b", func := "loop.example/g01260/laws.FnExactExponentialOf", spec := "fnExactExponentialOf", inPlace := ["internal/bytealg.abigen_runtime_cmpstring"], unfollowed := true, recurses := true, apart := false, narrowed := true }
def FnExactExponentialOfUptoSaid : Prop := fnExactExponentialOfUptoRow.holds Try.pinned (OpenSpec.upto fnExactExponentialOfSpec)

/-- 'laws.FnExactShufflePower', WHERE WHAT IT READS IS OF BULK AT MOST 1048576: true; the input reads as it did. -/
def fnExactShufflePowerUptoRow : OpenClaim := { program := "ytcklblagklojhaa", sum := "dac7a314d4e26a06ea004a3f3625ba04b3900e240ad3e14184bdabbb4fa6428b", func := "loop.example/g01260/laws.FnExactShufflePower", spec := "fnExactShufflePower", inPlace := ["internal/bytealg.abigen_runtime_cmpstring"], unfollowed := true, recurses := true, apart := false, narrowed := true }
def FnExactShufflePowerUptoSaid : Prop := fnExactShufflePowerUptoRow.holds Try.pinned (OpenSpec.upto fnExactShufflePowerSpec)

/-- 'laws.FnExactLogarithmOf', WHERE WHAT IT READS IS OF BULK AT MOST 1048576: true; the input reads as it did. -/
def fnExactLogarithmOfUptoRow : OpenClaim := { program := "ytcklblagklojhaa", sum := "dac7a314d4e26a06ea004a3f3625ba04b3900e240ad3e14184bdabbb4fa6428b", func := "loop.example/g01260/laws.FnExactLogarithmOf", spec := "fnExactLogarithmOf", inPlace := ["internal/bytealg.abigen_runtime_cmpstring"], unfollowed := true, recurses := true, apart := false, narrowed := true }
def FnExactLogarithmOfUptoSaid : Prop := fnExactLogarithmOfUptoRow.holds Try.pinned (OpenSpec.upto fnExactLogarithmOfSpec)

/-- 'laws.FnExactInverseSeries', WHERE WHAT IT READS IS OF BULK AT MOST 1048576: true; the input reads as it did. -/
def fnExactInverseSeriesUptoRow : OpenClaim := { program := "ytcklblagklojhaa", sum := "dac7a314d4e26a06ea004a3f3625ba04b3900e240ad3e14184bdabbb4fa6428b", func := "loop.example/g01260/laws.FnExactInverseSeries", spec := "fnExactInverseSeries", inPlace := ["internal/bytealg.abigen_runtime_cmpstring"], unfollowed := true, recurses := true, apart := false, narrowed := true }
def FnExactInverseSeriesUptoSaid : Prop := fnExactInverseSeriesUptoRow.holds Try.pinned (OpenSpec.upto fnExactInverseSeriesSpec)

end Rows
end Go.Proofs.Ytcklblagklojhaa
