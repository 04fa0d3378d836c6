/-
  No cell of these rows narrows 'for every input' (looked for: loops, veiled, ifaces, maps, wideKeys, modest, calm, conditions, laid).
  DERIVED. THE GIVEN ROWS OF THIS SEAT. 11 by the template 'for every input the law returns true; each argument reads behind the call as it read before'; 0 by the template 'total and deterministic' (their statements: YtmjomedmpokbcaaTotals.lean).
  GIVEN WITH THE SEED: the statements are not yours to turn. If you find one false, say at which input.
  Laid BY PROGRAM, IN A SANDBOX (cutbox-rows.mjs): the forced cells as the released guide's own fill.sh prints them over the translation af895c3041f6d2c2… (all of the seat's roots in one cut). By AI agents, Wed Nov 11 2026. No macro, syntax, notation, axiom, sorry.
-/
import Derived.Test.YtmjomedmpokbcaaChecked
import GoSem.Claim
import GoSem.ClaimJoined
import GoSem.ClaimMapViews
import Derived.JoinedTies
import Derived.KernelRfl
namespace Go.Proofs.Ytmjomedmpokbcaa
/- THE CELL 'sum', in the pinned program and in every row, IS THE sha256 OF THE DUMP (.gsa) THAT YtmjomedmpokbcaaProg.lean LOADS. Nothing in Lean hashes anything: it is a label: what it is worth is what the hold of that sum in a sandbox is worth. -/
noncomputable def Try.pinned : Pinned := { name := "ytmjomedmpokbcaa", sum := "af895c3041f6d2c233a5bb9d7f7aece9a496a886f61745497c6c4cba9c8f1a2a", checked := Try.checked }
namespace Rows
def none {H : Type} : Left H := { results := [], args := [] }

/-- 'laws.FnExactConstants': WHATEVER THE INPUT: true; the input reads as it did. -/
def fnExactConstantsSpec : ChangeSpec := { name := "fnExactConstants", fn := fun _ => fun
  | [] => { results := [.lit (.bool true)], args := [] }
  | _ => none }
def fnExactConstantsRow : OpenClaim := { program := "ytmjomedmpokbcaa", sum := "af895c3041f6d2c233a5bb9d7f7aece9a496a886f61745497c6c4cba9c8f1a2a", func := "loop.example/g01260/laws.FnExactConstants", spec := "fnExactConstants", apart := false }
def FnExactConstantsSaid : Prop := fnExactConstantsRow.holds Try.pinned (OpenSpec.ofChange fnExactConstantsSpec)

/-- ITS FALSE NEIGHBOUR: 'it returns false'. Refute it at one input. -/
def fnExactConstantsWrong : ChangeSpec := { name := "fnExactConstants", fn := fun _ => fun
  | [] => { results := [.lit (.bool false)], args := [] }
  | _ => none }
def FnExactConstantsWrongFalsely : Prop := fnExactConstantsRow.holds Try.pinned (OpenSpec.ofChange fnExactConstantsWrong)

/-- 'laws.FnExactIsFraction': WHATEVER THE INPUT: true; the input reads as it did. -/
def fnExactIsFractionSpec : ChangeSpec := { name := "fnExactIsFraction", fn := fun _ => fun
  | [d] => { results := [.lit (.bool true)], args := [d] }
  | _ => none }
def fnExactIsFractionRow : OpenClaim := { program := "ytmjomedmpokbcaa", sum := "af895c3041f6d2c233a5bb9d7f7aece9a496a886f61745497c6c4cba9c8f1a2a", func := "loop.example/g01260/laws.FnExactIsFraction", spec := "fnExactIsFraction", apart := false }
def FnExactIsFractionSaid : Prop := fnExactIsFractionRow.holds Try.pinned (OpenSpec.ofChange fnExactIsFractionSpec)

/-- ITS FALSE NEIGHBOUR: 'it returns false'. Refute it at one input. -/
def fnExactIsFractionWrong : ChangeSpec := { name := "fnExactIsFraction", fn := fun _ => fun
  | [d] => { results := [.lit (.bool false)], args := [d] }
  | _ => none }
def FnExactIsFractionWrongFalsely : Prop := fnExactIsFractionRow.holds Try.pinned (OpenSpec.ofChange fnExactIsFractionWrong)

/-- 'laws.FnExactNumberOfWord': WHATEVER THE INPUT: true; the input reads as it did. -/
def fnExactNumberOfWordSpec : ChangeSpec := { name := "fnExactNumberOfWord", fn := fun _ => fun
  | [d1, d2] => { results := [.lit (.bool true)], args := [d1, d2] }
  | _ => none }
def fnExactNumberOfWordRow : OpenClaim := { program := "ytmjomedmpokbcaa", sum := "af895c3041f6d2c233a5bb9d7f7aece9a496a886f61745497c6c4cba9c8f1a2a", func := "loop.example/g01260/laws.FnExactNumberOfWord", spec := "fnExactNumberOfWord", apart := false }
def FnExactNumberOfWordSaid : Prop := fnExactNumberOfWordRow.holds Try.pinned (OpenSpec.ofChange fnExactNumberOfWordSpec)

/-- ITS FALSE NEIGHBOUR: 'it returns false'. Refute it at one input. -/
def fnExactNumberOfWordWrong : ChangeSpec := { name := "fnExactNumberOfWord", fn := fun _ => fun
  | [d1, d2] => { results := [.lit (.bool false)], args := [d1, d2] }
  | _ => none }
def FnExactNumberOfWordWrongFalsely : Prop := fnExactNumberOfWordRow.holds Try.pinned (OpenSpec.ofChange fnExactNumberOfWordWrong)

/-- 'laws.FnExactWordOfNumber': WHATEVER THE INPUT: true; the input reads as it did. -/
def fnExactWordOfNumberSpec : ChangeSpec := { name := "fnExactWordOfNumber", fn := fun _ => fun
  | [d1, d2] => { results := [.lit (.bool true)], args := [d1, d2] }
  | _ => none }
def fnExactWordOfNumberRow : OpenClaim := { program := "ytmjomedmpokbcaa", sum := "af895c3041f6d2c233a5bb9d7f7aece9a496a886f61745497c6c4cba9c8f1a2a", func := "loop.example/g01260/laws.FnExactWordOfNumber", spec := "fnExactWordOfNumber", apart := false }
def FnExactWordOfNumberSaid : Prop := fnExactWordOfNumberRow.holds Try.pinned (OpenSpec.ofChange fnExactWordOfNumberSpec)

/-- ITS FALSE NEIGHBOUR: 'it returns false'. Refute it at one input. -/
def fnExactWordOfNumberWrong : ChangeSpec := { name := "fnExactWordOfNumber", fn := fun _ => fun
  | [d1, d2] => { results := [.lit (.bool false)], args := [d1, d2] }
  | _ => none }
def FnExactWordOfNumberWrongFalsely : Prop := fnExactWordOfNumberRow.holds Try.pinned (OpenSpec.ofChange fnExactWordOfNumberWrong)

/-- 'laws.FnExactShuffleNumber': WHATEVER THE INPUT: true; the input reads as it did. -/
def fnExactShuffleNumberSpec : ChangeSpec := { name := "fnExactShuffleNumber", fn := fun _ => fun
  | [d1, d2, d3, d4] => { results := [.lit (.bool true)], args := [d1, d2, d3, d4] }
  | _ => none }
def fnExactShuffleNumberRow : OpenClaim := { program := "ytmjomedmpokbcaa", sum := "af895c3041f6d2c233a5bb9d7f7aece9a496a886f61745497c6c4cba9c8f1a2a", func := "loop.example/g01260/laws.FnExactShuffleNumber", spec := "fnExactShuffleNumber", recurses := true, apart := false }
def FnExactShuffleNumberSaid : Prop := fnExactShuffleNumberRow.holds Try.pinned (OpenSpec.ofChange fnExactShuffleNumberSpec)

/-- ITS FALSE NEIGHBOUR: 'it returns false'. Refute it at one input. -/
def fnExactShuffleNumberWrong : ChangeSpec := { name := "fnExactShuffleNumber", fn := fun _ => fun
  | [d1, d2, d3, d4] => { results := [.lit (.bool false)], args := [d1, d2, d3, d4] }
  | _ => none }
def FnExactShuffleNumberWrongFalsely : Prop := fnExactShuffleNumberRow.holds Try.pinned (OpenSpec.ofChange fnExactShuffleNumberWrong)

/-- 'laws.FnExactWordsOf': WHATEVER THE INPUT: true; the input reads as it did. -/
def fnExactWordsOfSpec : ChangeSpec := { name := "fnExactWordsOf", fn := fun _ => fun
  | [d1, d2] => { results := [.lit (.bool true)], args := [d1, d2] }
  | _ => none }
def fnExactWordsOfRow : OpenClaim := { program := "ytmjomedmpokbcaa", sum := "af895c3041f6d2c233a5bb9d7f7aece9a496a886f61745497c6c4cba9c8f1a2a", func := "loop.example/g01260/laws.FnExactWordsOf", spec := "fnExactWordsOf", apart := false }
def FnExactWordsOfSaid : Prop := fnExactWordsOfRow.holds Try.pinned (OpenSpec.ofChange fnExactWordsOfSpec)

/-- ITS FALSE NEIGHBOUR: 'it returns false'. Refute it at one input. -/
def fnExactWordsOfWrong : ChangeSpec := { name := "fnExactWordsOf", fn := fun _ => fun
  | [d1, d2] => { results := [.lit (.bool false)], args := [d1, d2] }
  | _ => none }
def FnExactWordsOfWrongFalsely : Prop := fnExactWordsOfRow.holds Try.pinned (OpenSpec.ofChange fnExactWordsOfWrong)

/-- 'laws.FnExactFractionOf': WHATEVER THE INPUT: true; the input reads as it did. -/
def fnExactFractionOfSpec : ChangeSpec := { name := "fnExactFractionOf", fn := fun _ => fun
  | [d1, d2] => { results := [.lit (.bool true)], args := [d1, d2] }
  | _ => none }
def fnExactFractionOfRow : OpenClaim := { program := "ytmjomedmpokbcaa", sum := "af895c3041f6d2c233a5bb9d7f7aece9a496a886f61745497c6c4cba9c8f1a2a", func := "loop.example/g01260/laws.FnExactFractionOf", spec := "fnExactFractionOf", apart := false }
def FnExactFractionOfSaid : Prop := fnExactFractionOfRow.holds Try.pinned (OpenSpec.ofChange fnExactFractionOfSpec)

/-- ITS FALSE NEIGHBOUR: 'it returns false'. Refute it at one input. -/
def fnExactFractionOfWrong : ChangeSpec := { name := "fnExactFractionOf", fn := fun _ => fun
  | [d1, d2] => { results := [.lit (.bool false)], args := [d1, d2] }
  | _ => none }
def FnExactFractionOfWrongFalsely : Prop := fnExactFractionOfRow.holds Try.pinned (OpenSpec.ofChange fnExactFractionOfWrong)

/-- 'laws.FnExactIsPath': WHATEVER THE INPUT: true; the input reads as it did. -/
def fnExactIsPathSpec : ChangeSpec := { name := "fnExactIsPath", fn := fun _ => fun
  | [d1, d2] => { results := [.lit (.bool true)], args := [d1, d2] }
  | _ => none }
def fnExactIsPathRow : OpenClaim := { program := "ytmjomedmpokbcaa", sum := "af895c3041f6d2c233a5bb9d7f7aece9a496a886f61745497c6c4cba9c8f1a2a", func := "loop.example/g01260/laws.FnExactIsPath", spec := "fnExactIsPath", unfollowed := true, recurses := true, apart := false }
def FnExactIsPathSaid : Prop := fnExactIsPathRow.holds Try.pinned (OpenSpec.ofChange fnExactIsPathSpec)

/-- ITS FALSE NEIGHBOUR: 'it returns false'. Refute it at one input. -/
def fnExactIsPathWrong : ChangeSpec := { name := "fnExactIsPath", fn := fun _ => fun
  | [d1, d2] => { results := [.lit (.bool false)], args := [d1, d2] }
  | _ => none }
def FnExactIsPathWrongFalsely : Prop := fnExactIsPathRow.holds Try.pinned (OpenSpec.ofChange fnExactIsPathWrong)

/-- 'laws.FnExactCutsOfWord': WHATEVER THE INPUT: true; the input reads as it did. -/
def fnExactCutsOfWordSpec : ChangeSpec := { name := "fnExactCutsOfWord", fn := fun _ => fun
  | [d1, d2] => { results := [.lit (.bool true)], args := [d1, d2] }
  | _ => none }
def fnExactCutsOfWordRow : OpenClaim := { program := "ytmjomedmpokbcaa", sum := "af895c3041f6d2c233a5bb9d7f7aece9a496a886f61745497c6c4cba9c8f1a2a", func := "loop.example/g01260/laws.FnExactCutsOfWord", spec := "fnExactCutsOfWord", apart := false }
def FnExactCutsOfWordSaid : Prop := fnExactCutsOfWordRow.holds Try.pinned (OpenSpec.ofChange fnExactCutsOfWordSpec)

/-- ITS FALSE NEIGHBOUR: 'it returns false'. Refute it at one input. -/
def fnExactCutsOfWordWrong : ChangeSpec := { name := "fnExactCutsOfWord", fn := fun _ => fun
  | [d1, d2] => { results := [.lit (.bool false)], args := [d1, d2] }
  | _ => none }
def FnExactCutsOfWordWrongFalsely : Prop := fnExactCutsOfWordRow.holds Try.pinned (OpenSpec.ofChange fnExactCutsOfWordWrong)

/-- 'laws.FnExactMultiplyFractions': WHATEVER THE INPUT: true; the input reads as it did. -/
def fnExactMultiplyFractionsSpec : ChangeSpec := { name := "fnExactMultiplyFractions", fn := fun _ => fun
  | [d1, d2] => { results := [.lit (.bool true)], args := [d1, d2] }
  | _ => none }
def fnExactMultiplyFractionsRow : OpenClaim := { program := "ytmjomedmpokbcaa", sum := "af895c3041f6d2c233a5bb9d7f7aece9a496a886f61745497c6c4cba9c8f1a2a", func := "loop.example/g01260/laws.FnExactMultiplyFractions", spec := "fnExactMultiplyFractions", unfollowed := true, recurses := true, apart := false }
def FnExactMultiplyFractionsSaid : Prop := fnExactMultiplyFractionsRow.holds Try.pinned (OpenSpec.ofChange fnExactMultiplyFractionsSpec)

/-- ITS FALSE NEIGHBOUR: 'it returns false'. Refute it at one input. -/
def fnExactMultiplyFractionsWrong : ChangeSpec := { name := "fnExactMultiplyFractions", fn := fun _ => fun
  | [d1, d2] => { results := [.lit (.bool false)], args := [d1, d2] }
  | _ => none }
def FnExactMultiplyFractionsWrongFalsely : Prop := fnExactMultiplyFractionsRow.holds Try.pinned (OpenSpec.ofChange fnExactMultiplyFractionsWrong)

/-- 'laws.FnExactAddFractions': WHATEVER THE INPUT: true; the input reads as it did. -/
def fnExactAddFractionsSpec : ChangeSpec := { name := "fnExactAddFractions", fn := fun _ => fun
  | [d1, d2] => { results := [.lit (.bool true)], args := [d1, d2] }
  | _ => none }
def fnExactAddFractionsRow : OpenClaim := { program := "ytmjomedmpokbcaa", sum := "af895c3041f6d2c233a5bb9d7f7aece9a496a886f61745497c6c4cba9c8f1a2a", func := "loop.example/g01260/laws.FnExactAddFractions", spec := "fnExactAddFractions", unfollowed := true, recurses := true, apart := false }
def FnExactAddFractionsSaid : Prop := fnExactAddFractionsRow.holds Try.pinned (OpenSpec.ofChange fnExactAddFractionsSpec)

/-- ITS FALSE NEIGHBOUR: 'it returns false'. Refute it at one input. -/
def fnExactAddFractionsWrong : ChangeSpec := { name := "fnExactAddFractions", fn := fun _ => fun
  | [d1, d2] => { results := [.lit (.bool false)], args := [d1, d2] }
  | _ => none }
def FnExactAddFractionsWrongFalsely : Prop := fnExactAddFractionsRow.holds Try.pinned (OpenSpec.ofChange fnExactAddFractionsWrong)

/- THE SECOND FORM. 'bulk': how many values and letters a reading holds, each counted each time it is reached (what is shared counts as often as it is met; a slice's spare places count too). A statement '..UptoSaid' is the law's where the arguments, and the package variables that the reading takes, are together of bulk at most 1048576: NARROWER than '..Said'. Prove '..Said' where nothing that the law and all that it calls make is longer than what came in: it says more and counts as full. Else prove '..UptoSaid'. A law counts once. -/
mutual
def uptoBulk {H : Type} : DataW H → Nat
  | .lit (.string bytes) => bytes.length + 1
  | .lit _ => 1
  | .nil => 1
  | .ptr d => uptoBulk d + 1
  | .slice elems spare => uptoBulkAll elems + uptoBulkAll spare + 1
  | .agg parts => uptoBulkAll parts + 1
  | .iface _ d => uptoBulk d + 1
  | .map entries => uptoBulkEntries entries + 1
  | .held _ => 1
def uptoBulkAll {H : Type} : List (DataW H) → Nat
  | [] => 0
  | d :: r => uptoBulk d + uptoBulkAll r
def uptoBulkEntries {H : Type} : List (Lit × DataW H) → Nat
  | [] => 0
  | x :: r => uptoBulkEntry x + uptoBulkEntries r
def uptoBulkEntry {H : Type} : Lit × DataW H → Nat
  | (.string bytes, d) => bytes.length + uptoBulk d + 1
  | (_, d) => uptoBulk d + 1
 end
def uptoSmall : (H : Type) → List (DataW H) → Bool := fun _ ds => decide (uptoBulkAll ds ≤ 1048576)
def OpenSpec.upto (s : _root_.Go.ChangeSpec) : _root_.Go.OpenSpec := { _root_.Go.OpenSpec.ofChange s with cond := some uptoSmall }

/-- 'laws.FnExactConstants', WHERE WHAT IT READS IS OF BULK AT MOST 1048576: true; the input reads as it did. -/
def fnExactConstantsUptoRow : OpenClaim := { program := "ytmjomedmpokbcaa", sum := "af895c3041f6d2c233a5bb9d7f7aece9a496a886f61745497c6c4cba9c8f1a2a", func := "loop.example/g01260/laws.FnExactConstants", spec := "fnExactConstants", apart := false, narrowed := true }
def FnExactConstantsUptoSaid : Prop := fnExactConstantsUptoRow.holds Try.pinned (OpenSpec.upto fnExactConstantsSpec)

/-- 'laws.FnExactIsFraction', WHERE WHAT IT READS IS OF BULK AT MOST 1048576: true; the input reads as it did. -/
def fnExactIsFractionUptoRow : OpenClaim := { program := "ytmjomedmpokbcaa", sum := "af895c3041f6d2c233a5bb9d7f7aece9a496a886f61745497c6c4cba9c8f1a2a", func := "loop.example/g01260/laws.FnExactIsFraction", spec := "fnExactIsFraction", apart := false, narrowed := true }
def FnExactIsFractionUptoSaid : Prop := fnExactIsFractionUptoRow.holds Try.pinned (OpenSpec.upto fnExactIsFractionSpec)

/-- 'laws.FnExactNumberOfWord', WHERE WHAT IT READS IS OF BULK AT MOST 1048576: true; the input reads as it did. -/
def fnExactNumberOfWordUptoRow : OpenClaim := { program := "ytmjomedmpokbcaa", sum := "af895c3041f6d2c233a5bb9d7f7aece9a496a886f61745497c6c4cba9c8f1a2a", func := "loop.example/g01260/laws.FnExactNumberOfWord", spec := "fnExactNumberOfWord", apart := false, narrowed := true }
def FnExactNumberOfWordUptoSaid : Prop := fnExactNumberOfWordUptoRow.holds Try.pinned (OpenSpec.upto fnExactNumberOfWordSpec)

/-- 'laws.FnExactWordOfNumber', WHERE WHAT IT READS IS OF BULK AT MOST 1048576: true; the input reads as it did. -/
def fnExactWordOfNumberUptoRow : OpenClaim := { program := "ytmjomedmpokbcaa", sum := "af895c3041f6d2c233a5bb9d7f7aece9a496a886f61745497c6c4cba9c8f1a2a", func := "loop.example/g01260/laws.FnExactWordOfNumber", spec := "fnExactWordOfNumber", apart := false, narrowed := true }
def FnExactWordOfNumberUptoSaid : Prop := fnExactWordOfNumberUptoRow.holds Try.pinned (OpenSpec.upto fnExactWordOfNumberSpec)

/-- 'laws.FnExactShuffleNumber', WHERE WHAT IT READS IS OF BULK AT MOST 1048576: true; the input reads as it did. -/
def fnExactShuffleNumberUptoRow : OpenClaim := { program := "ytmjomedmpokbcaa", sum := "af895c3041f6d2c233a5bb9d7f7aece9a496a886f61745497c6c4cba9c8f1a2a", func := "loop.example/g01260/laws.FnExactShuffleNumber", spec := "fnExactShuffleNumber", recurses := true, apart := false, narrowed := true }
def FnExactShuffleNumberUptoSaid : Prop := fnExactShuffleNumberUptoRow.holds Try.pinned (OpenSpec.upto fnExactShuffleNumberSpec)

/-- 'laws.FnExactWordsOf', WHERE WHAT IT READS IS OF BULK AT MOST 1048576: true; the input reads as it did. -/
def fnExactWordsOfUptoRow : OpenClaim := { program := "ytmjomedmpokbcaa", sum := "af895c3041f6d2c233a5bb9d7f7aece9a496a886f61745497c6c4cba9c8f1a2a", func := "loop.example/g01260/laws.FnExactWordsOf", spec := "fnExactWordsOf", apart := false, narrowed := true }
def FnExactWordsOfUptoSaid : Prop := fnExactWordsOfUptoRow.holds Try.pinned (OpenSpec.upto fnExactWordsOfSpec)

/-- 'laws.FnExactFractionOf', WHERE WHAT IT READS IS OF BULK AT MOST 1048576: true; the input reads as it did. -/
def fnExactFractionOfUptoRow : OpenClaim := { program := "ytmjomedmpokbcaa", sum := "af895c3041f6d2c233a5bb9d7f7aece9a496a886f61745497c6c4cba9c8f1a2a", func := "loop.example/g01260/laws.FnExactFractionOf", spec := "fnExactFractionOf", apart := false, narrowed := true }
def FnExactFractionOfUptoSaid : Prop := fnExactFractionOfUptoRow.holds Try.pinned (OpenSpec.upto fnExactFractionOfSpec)

/-- 'laws.FnExactIsPath', WHERE WHAT IT READS IS OF BULK AT MOST 1048576: true; the input reads as it did. -/
def fnExactIsPathUptoRow : OpenClaim := { program := "ytmjomedmpokbcaa", sum := "af895c3041f6d2c233a5bb9d7f7aece9a496a886f61745497c6c4cba9c8f1a2a", func := "loop.example/g01260/laws.FnExactIsPath", spec := "fnExactIsPath", unfollowed := true, recurses := true, apart := false, narrowed := true }
def FnExactIsPathUptoSaid : Prop := fnExactIsPathUptoRow.holds Try.pinned (OpenSpec.upto fnExactIsPathSpec)

/-- 'laws.FnExactCutsOfWord', WHERE WHAT IT READS IS OF BULK AT MOST 1048576: true; the input reads as it did. -/
def fnExactCutsOfWordUptoRow : OpenClaim := { program := "ytmjomedmpokbcaa", sum := "af895c3041f6d2c233a5bb9d7f7aece9a496a886f61745497c6c4cba9c8f1a2a", func := "loop.example/g01260/laws.FnExactCutsOfWord", spec := "fnExactCutsOfWord", apart := false, narrowed := true }
def FnExactCutsOfWordUptoSaid : Prop := fnExactCutsOfWordUptoRow.holds Try.pinned (OpenSpec.upto fnExactCutsOfWordSpec)

/-- 'laws.FnExactMultiplyFractions', WHERE WHAT IT READS IS OF BULK AT MOST 1048576: true; the input reads as it did. -/
def fnExactMultiplyFractionsUptoRow : OpenClaim := { program := "ytmjomedmpokbcaa", sum := "af895c3041f6d2c233a5bb9d7f7aece9a496a886f61745497c6c4cba9c8f1a2a", func := "loop.example/g01260/laws.FnExactMultiplyFractions", spec := "fnExactMultiplyFractions", unfollowed := true, recurses := true, apart := false, narrowed := true }
def FnExactMultiplyFractionsUptoSaid : Prop := fnExactMultiplyFractionsUptoRow.holds Try.pinned (OpenSpec.upto fnExactMultiplyFractionsSpec)

/-- 'laws.FnExactAddFractions', WHERE WHAT IT READS IS OF BULK AT MOST 1048576: true; the input reads as it did. -/
def fnExactAddFractionsUptoRow : OpenClaim := { program := "ytmjomedmpokbcaa", sum := "af895c3041f6d2c233a5bb9d7f7aece9a496a886f61745497c6c4cba9c8f1a2a", func := "loop.example/g01260/laws.FnExactAddFractions", spec := "fnExactAddFractions", unfollowed := true, recurses := true, apart := false, narrowed := true }
def FnExactAddFractionsUptoSaid : Prop := fnExactAddFractionsUptoRow.holds Try.pinned (OpenSpec.upto fnExactAddFractionsSpec)

end Rows
end Go.Proofs.Ytmjomedmpokbcaa
