/-
  No cell of these rows narrows 'for every input' (looked for: loops, veiled, ifaces, maps, wideKeys, modest, calm, conditions, laid).
  DERIVED. THE GIVEN ROWS OF THIS SEAT. 12 by the template 'for every input the law returns true; each argument reads behind the call as it read before'; 0 by the template 'total and deterministic' (their statements: YtolikggioekalaaTotals.lean).
  GIVEN WITH THE SEED: the statements are not yours to turn. If you find one false, say at which input.
  Laid BY PROGRAM, IN A SANDBOX (cutbox-rows.mjs): the forced cells as the released guide's own fill.sh prints them over the translation ab540de6d022f3c0… (all of the seat's roots in one cut). By AI agents, Wed Nov 11 2026. No macro, syntax, notation, axiom, sorry.
-/
import Derived.Test.YtolikggioekalaaChecked
import GoSem.Claim
import GoSem.ClaimJoined
import GoSem.ClaimMapViews
import Derived.JoinedTies
import Derived.KernelRfl
namespace Go.Proofs.Ytolikggioekalaa
/- THE CELL 'sum', in the pinned program and in every row, IS THE sha256 OF THE DUMP (.gsa) THAT YtolikggioekalaaProg.lean LOADS. Nothing in Lean hashes anything: it is a label: what it is worth is what the hold of that sum in a sandbox is worth. -/
noncomputable def Try.pinned : Pinned := { name := "ytolikggioekalaa", sum := "ab540de6d022f3c0af44a93563dc0c49d9f8d040096ad100b19ffd7d529ff7b1", checked := Try.checked }
namespace Rows
def none {H : Type} : Left H := { results := [], args := [] }

/-- 'laws.FnExactIsGrowing': WHATEVER THE INPUT: true; the input reads as it did. -/
def fnExactIsGrowingSpec : ChangeSpec := { name := "fnExactIsGrowing", fn := fun _ => fun
  | [d1, d2] => { results := [.lit (.bool true)], args := [d1, d2] }
  | _ => none }
def fnExactIsGrowingRow : OpenClaim := { program := "ytolikggioekalaa", sum := "ab540de6d022f3c0af44a93563dc0c49d9f8d040096ad100b19ffd7d529ff7b1", func := "loop.example/g02079/laws.FnExactIsGrowing", spec := "fnExactIsGrowing", unfollowed := true, recurses := true, apart := false }
def FnExactIsGrowingSaid : Prop := fnExactIsGrowingRow.holds Try.pinned (OpenSpec.ofChange fnExactIsGrowingSpec)

/-- ITS FALSE NEIGHBOUR: 'it returns false'. Refute it at one input. -/
def fnExactIsGrowingWrong : ChangeSpec := { name := "fnExactIsGrowing", fn := fun _ => fun
  | [d1, d2] => { results := [.lit (.bool false)], args := [d1, d2] }
  | _ => none }
def FnExactIsGrowingWrongFalsely : Prop := fnExactIsGrowingRow.holds Try.pinned (OpenSpec.ofChange fnExactIsGrowingWrong)

/-- 'laws.FnExactLessRelation': WHATEVER THE INPUT: true; the input reads as it did. -/
def fnExactLessRelationSpec : ChangeSpec := { name := "fnExactLessRelation", fn := fun _ => fun
  | [d] => { results := [.lit (.bool true)], args := [d] }
  | _ => none }
def fnExactLessRelationRow : OpenClaim := { program := "ytolikggioekalaa", sum := "ab540de6d022f3c0af44a93563dc0c49d9f8d040096ad100b19ffd7d529ff7b1", func := "loop.example/g02079/laws.FnExactLessRelation", spec := "fnExactLessRelation", unfollowed := true, recurses := true, apart := false }
def FnExactLessRelationSaid : Prop := fnExactLessRelationRow.holds Try.pinned (OpenSpec.ofChange fnExactLessRelationSpec)

/-- ITS FALSE NEIGHBOUR: 'it returns false'. Refute it at one input. -/
def fnExactLessRelationWrong : ChangeSpec := { name := "fnExactLessRelation", fn := fun _ => fun
  | [d] => { results := [.lit (.bool false)], args := [d] }
  | _ => none }
def FnExactLessRelationWrongFalsely : Prop := fnExactLessRelationRow.holds Try.pinned (OpenSpec.ofChange fnExactLessRelationWrong)

/-- 'laws.FnExactIterateMorphism': WHATEVER THE INPUT: true; the input reads as it did. -/
def fnExactIterateMorphismSpec : ChangeSpec := { name := "fnExactIterateMorphism", fn := fun _ => fun
  | [d1, d2, d3] => { results := [.lit (.bool true)], args := [d1, d2, d3] }
  | _ => none }
def fnExactIterateMorphismRow : OpenClaim := { program := "ytolikggioekalaa", sum := "ab540de6d022f3c0af44a93563dc0c49d9f8d040096ad100b19ffd7d529ff7b1", func := "loop.example/g02079/laws.FnExactIterateMorphism", spec := "fnExactIterateMorphism", apart := false }
def FnExactIterateMorphismSaid : Prop := fnExactIterateMorphismRow.holds Try.pinned (OpenSpec.ofChange fnExactIterateMorphismSpec)

/-- ITS FALSE NEIGHBOUR: 'it returns false'. Refute it at one input. -/
def fnExactIterateMorphismWrong : ChangeSpec := { name := "fnExactIterateMorphism", fn := fun _ => fun
  | [d1, d2, d3] => { results := [.lit (.bool false)], args := [d1, d2, d3] }
  | _ => none }
def FnExactIterateMorphismWrongFalsely : Prop := fnExactIterateMorphismRow.holds Try.pinned (OpenSpec.ofChange fnExactIterateMorphismWrong)

/-- 'laws.FnExactMorphismOf': WHATEVER THE INPUT: true; the input reads as it did. -/
def fnExactMorphismOfSpec : ChangeSpec := { name := "fnExactMorphismOf", fn := fun _ => fun
  | [d] => { results := [.lit (.bool true)], args := [d] }
  | _ => none }
def fnExactMorphismOfRow : OpenClaim := { program := "ytolikggioekalaa", sum := "ab540de6d022f3c0af44a93563dc0c49d9f8d040096ad100b19ffd7d529ff7b1", func := "loop.example/g02079/laws.FnExactMorphismOf", spec := "fnExactMorphismOf", apart := false }
def FnExactMorphismOfSaid : Prop := fnExactMorphismOfRow.holds Try.pinned (OpenSpec.ofChange fnExactMorphismOfSpec)

/-- ITS FALSE NEIGHBOUR: 'it returns false'. Refute it at one input. -/
def fnExactMorphismOfWrong : ChangeSpec := { name := "fnExactMorphismOf", fn := fun _ => fun
  | [d] => { results := [.lit (.bool false)], args := [d] }
  | _ => none }
def FnExactMorphismOfWrongFalsely : Prop := fnExactMorphismOfRow.holds Try.pinned (OpenSpec.ofChange fnExactMorphismOfWrong)

/-- 'laws.FnExactFixedPrefix': WHATEVER THE INPUT: true; the input reads as it did. -/
def fnExactFixedPrefixSpec : ChangeSpec := { name := "fnExactFixedPrefix", fn := fun _ => fun
  | [d1, d2, d3] => { results := [.lit (.bool true)], args := [d1, d2, d3] }
  | _ => none }
def fnExactFixedPrefixRow : OpenClaim := { program := "ytolikggioekalaa", sum := "ab540de6d022f3c0af44a93563dc0c49d9f8d040096ad100b19ffd7d529ff7b1", func := "loop.example/g02079/laws.FnExactFixedPrefix", spec := "fnExactFixedPrefix", unfollowed := true, recurses := true, apart := false }
def FnExactFixedPrefixSaid : Prop := fnExactFixedPrefixRow.holds Try.pinned (OpenSpec.ofChange fnExactFixedPrefixSpec)

/-- ITS FALSE NEIGHBOUR: 'it returns false'. Refute it at one input. -/
def fnExactFixedPrefixWrong : ChangeSpec := { name := "fnExactFixedPrefix", fn := fun _ => fun
  | [d1, d2, d3] => { results := [.lit (.bool false)], args := [d1, d2, d3] }
  | _ => none }
def FnExactFixedPrefixWrongFalsely : Prop := fnExactFixedPrefixRow.holds Try.pinned (OpenSpec.ofChange fnExactFixedPrefixWrong)

/-- 'laws.FnExactSequenceOf': WHATEVER THE INPUT: true; the input reads as it did. -/
def fnExactSequenceOfSpec : ChangeSpec := { name := "fnExactSequenceOf", fn := fun _ => fun
  | [d1, d2] => { results := [.lit (.bool true)], args := [d1, d2] }
  | _ => none }
def fnExactSequenceOfRow : OpenClaim := { program := "ytolikggioekalaa", sum := "ab540de6d022f3c0af44a93563dc0c49d9f8d040096ad100b19ffd7d529ff7b1", func := "loop.example/g02079/laws.FnExactSequenceOf", spec := "fnExactSequenceOf", apart := false }
def FnExactSequenceOfSaid : Prop := fnExactSequenceOfRow.holds Try.pinned (OpenSpec.ofChange fnExactSequenceOfSpec)

/-- ITS FALSE NEIGHBOUR: 'it returns false'. Refute it at one input. -/
def fnExactSequenceOfWrong : ChangeSpec := { name := "fnExactSequenceOf", fn := fun _ => fun
  | [d1, d2] => { results := [.lit (.bool false)], args := [d1, d2] }
  | _ => none }
def FnExactSequenceOfWrongFalsely : Prop := fnExactSequenceOfRow.holds Try.pinned (OpenSpec.ofChange fnExactSequenceOfWrong)

/-- 'laws.FnExactCountRuns': WHATEVER THE INPUT: true; the input reads as it did. -/
def fnExactCountRunsSpec : ChangeSpec := { name := "fnExactCountRuns", fn := fun _ => fun
  | [d] => { results := [.lit (.bool true)], args := [d] }
  | _ => none }
def fnExactCountRunsRow : OpenClaim := { program := "ytolikggioekalaa", sum := "ab540de6d022f3c0af44a93563dc0c49d9f8d040096ad100b19ffd7d529ff7b1", func := "loop.example/g02079/laws.FnExactCountRuns", spec := "fnExactCountRuns", unfollowed := true, recurses := true, apart := false }
def FnExactCountRunsSaid : Prop := fnExactCountRunsRow.holds Try.pinned (OpenSpec.ofChange fnExactCountRunsSpec)

/-- ITS FALSE NEIGHBOUR: 'it returns false'. Refute it at one input. -/
def fnExactCountRunsWrong : ChangeSpec := { name := "fnExactCountRuns", fn := fun _ => fun
  | [d] => { results := [.lit (.bool false)], args := [d] }
  | _ => none }
def FnExactCountRunsWrongFalsely : Prop := fnExactCountRunsRow.holds Try.pinned (OpenSpec.ofChange fnExactCountRunsWrong)

/-- 'laws.FnExactIsRun': WHATEVER THE INPUT: true; the input reads as it did. -/
def fnExactIsRunSpec : ChangeSpec := { name := "fnExactIsRun", fn := fun _ => fun
  | [d1, d2] => { results := [.lit (.bool true)], args := [d1, d2] }
  | _ => none }
def fnExactIsRunRow : OpenClaim := { program := "ytolikggioekalaa", sum := "ab540de6d022f3c0af44a93563dc0c49d9f8d040096ad100b19ffd7d529ff7b1", func := "loop.example/g02079/laws.FnExactIsRun", spec := "fnExactIsRun", unfollowed := true, recurses := true, apart := false }
def FnExactIsRunSaid : Prop := fnExactIsRunRow.holds Try.pinned (OpenSpec.ofChange fnExactIsRunSpec)

/-- ITS FALSE NEIGHBOUR: 'it returns false'. Refute it at one input. -/
def fnExactIsRunWrong : ChangeSpec := { name := "fnExactIsRun", fn := fun _ => fun
  | [d1, d2] => { results := [.lit (.bool false)], args := [d1, d2] }
  | _ => none }
def FnExactIsRunWrongFalsely : Prop := fnExactIsRunRow.holds Try.pinned (OpenSpec.ofChange fnExactIsRunWrong)

/-- 'laws.FnExactRunExponents': WHATEVER THE INPUT: true; the input reads as it did. -/
def fnExactRunExponentsSpec : ChangeSpec := { name := "fnExactRunExponents", fn := fun _ => fun
  | [d] => { results := [.lit (.bool true)], args := [d] }
  | _ => none }
def fnExactRunExponentsRow : OpenClaim := { program := "ytolikggioekalaa", sum := "ab540de6d022f3c0af44a93563dc0c49d9f8d040096ad100b19ffd7d529ff7b1", func := "loop.example/g02079/laws.FnExactRunExponents", spec := "fnExactRunExponents", unfollowed := true, recurses := true, apart := false }
def FnExactRunExponentsSaid : Prop := fnExactRunExponentsRow.holds Try.pinned (OpenSpec.ofChange fnExactRunExponentsSpec)

/-- ITS FALSE NEIGHBOUR: 'it returns false'. Refute it at one input. -/
def fnExactRunExponentsWrong : ChangeSpec := { name := "fnExactRunExponents", fn := fun _ => fun
  | [d] => { results := [.lit (.bool false)], args := [d] }
  | _ => none }
def FnExactRunExponentsWrongFalsely : Prop := fnExactRunExponentsRow.holds Try.pinned (OpenSpec.ofChange fnExactRunExponentsWrong)

/-- 'laws.FnExactLeastConjugate': WHATEVER THE INPUT: true; the input reads as it did. -/
def fnExactLeastConjugateSpec : ChangeSpec := { name := "fnExactLeastConjugate", fn := fun _ => fun
  | [d] => { results := [.lit (.bool true)], args := [d] }
  | _ => none }
def fnExactLeastConjugateRow : OpenClaim := { program := "ytolikggioekalaa", sum := "ab540de6d022f3c0af44a93563dc0c49d9f8d040096ad100b19ffd7d529ff7b1", func := "loop.example/g02079/laws.FnExactLeastConjugate", spec := "fnExactLeastConjugate", unfollowed := true, recurses := true, apart := false }
def FnExactLeastConjugateSaid : Prop := fnExactLeastConjugateRow.holds Try.pinned (OpenSpec.ofChange fnExactLeastConjugateSpec)

/-- ITS FALSE NEIGHBOUR: 'it returns false'. Refute it at one input. -/
def fnExactLeastConjugateWrong : ChangeSpec := { name := "fnExactLeastConjugate", fn := fun _ => fun
  | [d] => { results := [.lit (.bool false)], args := [d] }
  | _ => none }
def FnExactLeastConjugateWrongFalsely : Prop := fnExactLeastConjugateRow.holds Try.pinned (OpenSpec.ofChange fnExactLeastConjugateWrong)

/-- 'laws.FnExactDistinctSquares': WHATEVER THE INPUT: true; the input reads as it did. -/
def fnExactDistinctSquaresSpec : ChangeSpec := { name := "fnExactDistinctSquares", fn := fun _ => fun
  | [d] => { results := [.lit (.bool true)], args := [d] }
  | _ => none }
def fnExactDistinctSquaresRow : OpenClaim := { program := "ytolikggioekalaa", sum := "ab540de6d022f3c0af44a93563dc0c49d9f8d040096ad100b19ffd7d529ff7b1", func := "loop.example/g02079/laws.FnExactDistinctSquares", spec := "fnExactDistinctSquares", unfollowed := true, recurses := true, apart := false }
def FnExactDistinctSquaresSaid : Prop := fnExactDistinctSquaresRow.holds Try.pinned (OpenSpec.ofChange fnExactDistinctSquaresSpec)

/-- ITS FALSE NEIGHBOUR: 'it returns false'. Refute it at one input. -/
def fnExactDistinctSquaresWrong : ChangeSpec := { name := "fnExactDistinctSquares", fn := fun _ => fun
  | [d] => { results := [.lit (.bool false)], args := [d] }
  | _ => none }
def FnExactDistinctSquaresWrongFalsely : Prop := fnExactDistinctSquaresRow.holds Try.pinned (OpenSpec.ofChange fnExactDistinctSquaresWrong)

/-- 'laws.FnExactCountFactors': WHATEVER THE INPUT: true; the input reads as it did. -/
def fnExactCountFactorsSpec : ChangeSpec := { name := "fnExactCountFactors", fn := fun _ => fun
  | [d1, d2] => { results := [.lit (.bool true)], args := [d1, d2] }
  | _ => none }
def fnExactCountFactorsRow : OpenClaim := { program := "ytolikggioekalaa", sum := "ab540de6d022f3c0af44a93563dc0c49d9f8d040096ad100b19ffd7d529ff7b1", func := "loop.example/g02079/laws.FnExactCountFactors", spec := "fnExactCountFactors", unfollowed := true, recurses := true, apart := false }
def FnExactCountFactorsSaid : Prop := fnExactCountFactorsRow.holds Try.pinned (OpenSpec.ofChange fnExactCountFactorsSpec)

/-- ITS FALSE NEIGHBOUR: 'it returns false'. Refute it at one input. -/
def fnExactCountFactorsWrong : ChangeSpec := { name := "fnExactCountFactors", fn := fun _ => fun
  | [d1, d2] => { results := [.lit (.bool false)], args := [d1, d2] }
  | _ => none }
def FnExactCountFactorsWrongFalsely : Prop := fnExactCountFactorsRow.holds Try.pinned (OpenSpec.ofChange fnExactCountFactorsWrong)

/- THE SECOND FORM. 'bulk': how many values and letters a reading holds, each counted each time it is reached (what is shared counts as often as it is met; a slice's spare places count too). A statement '..UptoSaid' is the law's where the arguments, and the package variables that the reading takes, are together of bulk at most 1048576: NARROWER than '..Said'. Prove '..Said' where nothing that the law and all that it calls make is longer than what came in: it says more and counts as full. Else prove '..UptoSaid'. A law counts once. -/
mutual
def uptoBulk {H : Type} : DataW H → Nat
  | .lit (.string bytes) => bytes.length + 1
  | .lit _ => 1
  | .nil => 1
  | .ptr d => uptoBulk d + 1
  | .slice elems spare => uptoBulkAll elems + uptoBulkAll spare + 1
  | .agg parts => uptoBulkAll parts + 1
  | .iface _ d => uptoBulk d + 1
  | .map entries => uptoBulkEntries entries + 1
  | .held _ => 1
def uptoBulkAll {H : Type} : List (DataW H) → Nat
  | [] => 0
  | d :: r => uptoBulk d + uptoBulkAll r
def uptoBulkEntries {H : Type} : List (Lit × DataW H) → Nat
  | [] => 0
  | x :: r => uptoBulkEntry x + uptoBulkEntries r
def uptoBulkEntry {H : Type} : Lit × DataW H → Nat
  | (.string bytes, d) => bytes.length + uptoBulk d + 1
  | (_, d) => uptoBulk d + 1
 end
def uptoSmall : (H : Type) → List (DataW H) → Bool := fun _ ds => decide (uptoBulkAll ds ≤ 1048576)
def OpenSpec.upto (s : _root_.Go.ChangeSpec) : _root_.Go.OpenSpec := { _root_.Go.OpenSpec.ofChange s with cond := some uptoSmall }

/-- 'laws.FnExactIsGrowing', WHERE WHAT IT READS IS OF BULK AT MOST 1048576: true; the input reads as it did. -/
def fnExactIsGrowingUptoRow : OpenClaim := { program := "ytolikggioekalaa", sum := "ab540de6d022f3c0af44a93563dc0c49d9f8d040096ad100b19ffd7d529ff7b1", func := "loop.example/g02079/laws.FnExactIsGrowing", spec := "fnExactIsGrowing", unfollowed := true, recurses := true, apart := false, narrowed := true }
def FnExactIsGrowingUptoSaid : Prop := fnExactIsGrowingUptoRow.holds Try.pinned (OpenSpec.upto fnExactIsGrowingSpec)

/-- 'laws.FnExactLessRelation', WHERE WHAT IT READS IS OF BULK AT MOST 1048576: true; the input reads as it did. -/
def fnExactLessRelationUptoRow : OpenClaim := { program := "ytolikggioekalaa", sum := "ab540de6d022f3c0af44a93563dc0c49d9f8d040096ad100b19ffd7d529ff7b1", func := "loop.example/g02079/laws.FnExactLessRelation", spec := "fnExactLessRelation", unfollowed := true, recurses := true, apart := false, narrowed := true }
def FnExactLessRelationUptoSaid : Prop := fnExactLessRelationUptoRow.holds Try.pinned (OpenSpec.upto fnExactLessRelationSpec)

/-- 'laws.FnExactIterateMorphism', WHERE WHAT IT READS IS OF BULK AT MOST 1048576: true; the input reads as it did. -/
def fnExactIterateMorphismUptoRow : OpenClaim := { program := "ytolikggioekalaa", sum := "ab540de6d022f3c0af44a93563dc0c49d9f8d040096ad100b19ffd7d529ff7b1", func := "loop.example/g02079/laws.FnExactIterateMorphism", spec := "fnExactIterateMorphism", apart := false, narrowed := true }
def FnExactIterateMorphismUptoSaid : Prop := fnExactIterateMorphismUptoRow.holds Try.pinned (OpenSpec.upto fnExactIterateMorphismSpec)

/-- 'laws.FnExactMorphismOf', WHERE WHAT IT READS IS OF BULK AT MOST 1048576: true; the input reads as it did. -/
def fnExactMorphismOfUptoRow : OpenClaim := { program := "ytolikggioekalaa", sum := "ab540de6d022f3c0af44a93563dc0c49d9f8d040096ad100b19ffd7d529ff7b1", func := "loop.example/g02079/laws.FnExactMorphismOf", spec := "fnExactMorphismOf", apart := false, narrowed := true }
def FnExactMorphismOfUptoSaid : Prop := fnExactMorphismOfUptoRow.holds Try.pinned (OpenSpec.upto fnExactMorphismOfSpec)

/-- 'laws.FnExactFixedPrefix', WHERE WHAT IT READS IS OF BULK AT MOST 1048576: true; the input reads as it did. -/
def fnExactFixedPrefixUptoRow : OpenClaim := { program := "ytolikggioekalaa", sum := "ab540de6d022f3c0af44a93563dc0c49d9f8d040096ad100b19ffd7d529ff7b1", func := "loop.example/g02079/laws.FnExactFixedPrefix", spec := "fnExactFixedPrefix", unfollowed := true, recurses := true, apart := false, narrowed := true }
def FnExactFixedPrefixUptoSaid : Prop := fnExactFixedPrefixUptoRow.holds Try.pinned (OpenSpec.upto fnExactFixedPrefixSpec)

/-- 'laws.FnExactSequenceOf', WHERE WHAT IT READS IS OF BULK AT MOST 1048576: true; the input reads as it did. -/
def fnExactSequenceOfUptoRow : OpenClaim := { program := "ytolikggioekalaa", sum := "ab540de6d022f3c0af44a93563dc0c49d9f8d040096ad100b19ffd7d529ff7b1", func := "loop.example/g02079/laws.FnExactSequenceOf", spec := "fnExactSequenceOf", apart := false, narrowed := true }
def FnExactSequenceOfUptoSaid : Prop := fnExactSequenceOfUptoRow.holds Try.pinned (OpenSpec.upto fnExactSequenceOfSpec)

/-- 'laws.FnExactCountRuns', WHERE WHAT IT READS IS OF BULK AT MOST 1048576: true; the input reads as it did. -/
def fnExactCountRunsUptoRow : OpenClaim := { program := "ytolikggioekalaa", sum := "ab540de6d022f3c0af44a93563dc0c49d9f8d040096ad100b19ffd7d529ff7b1", func := "loop.example/g02079/laws.FnExactCountRuns", spec := "fnExactCountRuns", unfollowed := true, recurses := true, apart := false, narrowed := true }
def FnExactCountRunsUptoSaid : Prop := fnExactCountRunsUptoRow.holds Try.pinned (OpenSpec.upto fnExactCountRunsSpec)

/-- 'laws.FnExactIsRun', WHERE WHAT IT READS IS OF BULK AT MOST 1048576: true; the input reads as it did. -/
def fnExactIsRunUptoRow : OpenClaim := { program := "ytolikggioekalaa", sum := "ab540de6d022f3c0af44a93563dc0c49d9f8d040096ad100b19ffd7d529ff7b1", func := "loop.example/g02079/laws.FnExactIsRun", spec := "fnExactIsRun", unfollowed := true, recurses := true, apart := false, narrowed := true }
def FnExactIsRunUptoSaid : Prop := fnExactIsRunUptoRow.holds Try.pinned (OpenSpec.upto fnExactIsRunSpec)

/-- 'laws.FnExactRunExponents', WHERE WHAT IT READS IS OF BULK AT MOST 1048576: true; the input reads as it did. -/
def fnExactRunExponentsUptoRow : OpenClaim := { program := "ytolikggioekalaa", sum := "ab540de6d022f3c0af44a93563dc0c49d9f8d040096ad100b19ffd7d529ff7b1", func := "loop.example/g02079/laws.FnExactRunExponents", spec := "fnExactRunExponents", unfollowed := true, recurses := true, apart := false, narrowed := true }
def FnExactRunExponentsUptoSaid : Prop := fnExactRunExponentsUptoRow.holds Try.pinned (OpenSpec.upto fnExactRunExponentsSpec)

/-- 'laws.FnExactLeastConjugate', WHERE WHAT IT READS IS OF BULK AT MOST 1048576: true; the input reads as it did. -/
def fnExactLeastConjugateUptoRow : OpenClaim := { program := "ytolikggioekalaa", sum := "ab540de6d022f3c0af44a93563dc0c49d9f8d040096ad100b19ffd7d529ff7b1", func := "loop.example/g02079/laws.FnExactLeastConjugate", spec := "fnExactLeastConjugate", unfollowed := true, recurses := true, apart := false, narrowed := true }
def FnExactLeastConjugateUptoSaid : Prop := fnExactLeastConjugateUptoRow.holds Try.pinned (OpenSpec.upto fnExactLeastConjugateSpec)

/-- 'laws.FnExactDistinctSquares', WHERE WHAT IT READS IS OF BULK AT MOST 1048576: true; the input reads as it did. -/
def fnExactDistinctSquaresUptoRow : OpenClaim := { program := "ytolikggioekalaa", sum := "ab540de6d022f3c0af44a93563dc0c49d9f8d040096ad100b19ffd7d529ff7b1", func := "loop.example/g02079/laws.FnExactDistinctSquares", spec := "fnExactDistinctSquares", unfollowed := true, recurses := true, apart := false, narrowed := true }
def FnExactDistinctSquaresUptoSaid : Prop := fnExactDistinctSquaresUptoRow.holds Try.pinned (OpenSpec.upto fnExactDistinctSquaresSpec)

/-- 'laws.FnExactCountFactors', WHERE WHAT IT READS IS OF BULK AT MOST 1048576: true; the input reads as it did. -/
def fnExactCountFactorsUptoRow : OpenClaim := { program := "ytolikggioekalaa", sum := "ab540de6d022f3c0af44a93563dc0c49d9f8d040096ad100b19ffd7d529ff7b1", func := "loop.example/g02079/laws.FnExactCountFactors", spec := "fnExactCountFactors", unfollowed := true, recurses := true, apart := false, narrowed := true }
def FnExactCountFactorsUptoSaid : Prop := fnExactCountFactorsUptoRow.holds Try.pinned (OpenSpec.upto fnExactCountFactorsSpec)

end Rows
end Go.Proofs.Ytolikggioekalaa
