/-
  No cell of these rows narrows 'for every input' (looked for: loops, veiled, ifaces, maps, wideKeys, modest, calm, conditions, laid).
  DERIVED. THE GIVEN ROWS OF THIS SEAT. 12 by the template 'for every input the law returns true; each argument reads behind the call as it read before'; 0 by the template 'total and deterministic' (their statements: YtoaonfacjcienabTotals.lean).
  GIVEN WITH THE SEED: the statements are not yours to turn. If you find one false, say at which input.
  Laid BY PROGRAM, IN A SANDBOX (cutbox-rows.mjs): the forced cells as the released guide's own fill.sh prints them over the translation 198f761038bc532e… (all of the seat's roots in one cut). By AI agents, Wed Nov 11 2026. No macro, syntax, notation, axiom, sorry.
-/
import Derived.Test.YtoaonfacjcienabChecked
import GoSem.Claim
import GoSem.ClaimJoined
import GoSem.ClaimMapViews
import Derived.JoinedTies
import Derived.KernelRfl
namespace Go.Proofs.Ytoaonfacjcienab
/- THE CELL 'sum', in the pinned program and in every row, IS THE sha256 OF THE DUMP (.gsa) THAT YtoaonfacjcienabProg.lean LOADS. Nothing in Lean hashes anything: it is a label: what it is worth is what the hold of that sum in a sandbox is worth. -/
noncomputable def Try.pinned : Pinned := { name := "ytoaonfacjcienab", sum := "198f761038bc532e38bb34b138fe88cb58b85b0ec355f0ada4cb220adef248b0", checked := Try.checked }
namespace Rows
def none {H : Type} : Left H := { results := [], args := [] }

/-- 'laws.FnExactStandardSplit': WHATEVER THE INPUT: true; the input reads as it did. -/
def fnExactStandardSplitSpec : ChangeSpec := { name := "fnExactStandardSplit", fn := fun _ => fun
  | [d] => { results := [.lit (.bool true)], args := [d] }
  | _ => none }
def fnExactStandardSplitRow : OpenClaim := { program := "ytoaonfacjcienab", sum := "198f761038bc532e38bb34b138fe88cb58b85b0ec355f0ada4cb220adef248b0", func := "loop.example/g02079/laws.FnExactStandardSplit", spec := "fnExactStandardSplit", apart := false }
def FnExactStandardSplitSaid : Prop := fnExactStandardSplitRow.holds Try.pinned (OpenSpec.ofChange fnExactStandardSplitSpec)

/-- ITS FALSE NEIGHBOUR: 'it returns false'. Refute it at one input. -/
def fnExactStandardSplitWrong : ChangeSpec := { name := "fnExactStandardSplit", fn := fun _ => fun
  | [d] => { results := [.lit (.bool false)], args := [d] }
  | _ => none }
def FnExactStandardSplitWrongFalsely : Prop := fnExactStandardSplitRow.holds Try.pinned (OpenSpec.ofChange fnExactStandardSplitWrong)

/-- 'laws.FnExactPeriodsOf': WHATEVER THE INPUT: true; the input reads as it did. -/
def fnExactPeriodsOfSpec : ChangeSpec := { name := "fnExactPeriodsOf", fn := fun _ => fun
  | [d] => { results := [.lit (.bool true)], args := [d] }
  | _ => none }
def fnExactPeriodsOfRow : OpenClaim := { program := "ytoaonfacjcienab", sum := "198f761038bc532e38bb34b138fe88cb58b85b0ec355f0ada4cb220adef248b0", func := "loop.example/g02079/laws.FnExactPeriodsOf", spec := "fnExactPeriodsOf", apart := false }
def FnExactPeriodsOfSaid : Prop := fnExactPeriodsOfRow.holds Try.pinned (OpenSpec.ofChange fnExactPeriodsOfSpec)

/-- ITS FALSE NEIGHBOUR: 'it returns false'. Refute it at one input. -/
def fnExactPeriodsOfWrong : ChangeSpec := { name := "fnExactPeriodsOf", fn := fun _ => fun
  | [d] => { results := [.lit (.bool false)], args := [d] }
  | _ => none }
def FnExactPeriodsOfWrongFalsely : Prop := fnExactPeriodsOfRow.holds Try.pinned (OpenSpec.ofChange fnExactPeriodsOfWrong)

/-- 'laws.FnExactLyndonFactors': WHATEVER THE INPUT: true; the input reads as it did. -/
def fnExactLyndonFactorsSpec : ChangeSpec := { name := "fnExactLyndonFactors", fn := fun _ => fun
  | [d] => { results := [.lit (.bool true)], args := [d] }
  | _ => none }
def fnExactLyndonFactorsRow : OpenClaim := { program := "ytoaonfacjcienab", sum := "198f761038bc532e38bb34b138fe88cb58b85b0ec355f0ada4cb220adef248b0", func := "loop.example/g02079/laws.FnExactLyndonFactors", spec := "fnExactLyndonFactors", apart := false }
def FnExactLyndonFactorsSaid : Prop := fnExactLyndonFactorsRow.holds Try.pinned (OpenSpec.ofChange fnExactLyndonFactorsSpec)

/-- ITS FALSE NEIGHBOUR: 'it returns false'. Refute it at one input. -/
def fnExactLyndonFactorsWrong : ChangeSpec := { name := "fnExactLyndonFactors", fn := fun _ => fun
  | [d] => { results := [.lit (.bool false)], args := [d] }
  | _ => none }
def FnExactLyndonFactorsWrongFalsely : Prop := fnExactLyndonFactorsRow.holds Try.pinned (OpenSpec.ofChange fnExactLyndonFactorsWrong)

/-- 'laws.FnExactRootOf': WHATEVER THE INPUT: true; the input reads as it did. -/
def fnExactRootOfSpec : ChangeSpec := { name := "fnExactRootOf", fn := fun _ => fun
  | [d] => { results := [.lit (.bool true)], args := [d] }
  | _ => none }
def fnExactRootOfRow : OpenClaim := { program := "ytoaonfacjcienab", sum := "198f761038bc532e38bb34b138fe88cb58b85b0ec355f0ada4cb220adef248b0", func := "loop.example/g02079/laws.FnExactRootOf", spec := "fnExactRootOf", apart := false }
def FnExactRootOfSaid : Prop := fnExactRootOfRow.holds Try.pinned (OpenSpec.ofChange fnExactRootOfSpec)

/-- ITS FALSE NEIGHBOUR: 'it returns false'. Refute it at one input. -/
def fnExactRootOfWrong : ChangeSpec := { name := "fnExactRootOf", fn := fun _ => fun
  | [d] => { results := [.lit (.bool false)], args := [d] }
  | _ => none }
def FnExactRootOfWrongFalsely : Prop := fnExactRootOfRow.holds Try.pinned (OpenSpec.ofChange fnExactRootOfWrong)

/-- 'laws.FnExactExponentOf': WHATEVER THE INPUT: true; the input reads as it did. -/
def fnExactExponentOfSpec : ChangeSpec := { name := "fnExactExponentOf", fn := fun _ => fun
  | [d] => { results := [.lit (.bool true)], args := [d] }
  | _ => none }
def fnExactExponentOfRow : OpenClaim := { program := "ytoaonfacjcienab", sum := "198f761038bc532e38bb34b138fe88cb58b85b0ec355f0ada4cb220adef248b0", func := "loop.example/g02079/laws.FnExactExponentOf", spec := "fnExactExponentOf", apart := false }
def FnExactExponentOfSaid : Prop := fnExactExponentOfRow.holds Try.pinned (OpenSpec.ofChange fnExactExponentOfSpec)

/-- ITS FALSE NEIGHBOUR: 'it returns false'. Refute it at one input. -/
def fnExactExponentOfWrong : ChangeSpec := { name := "fnExactExponentOf", fn := fun _ => fun
  | [d] => { results := [.lit (.bool false)], args := [d] }
  | _ => none }
def FnExactExponentOfWrongFalsely : Prop := fnExactExponentOfRow.holds Try.pinned (OpenSpec.ofChange fnExactExponentOfWrong)

/-- 'laws.FnExactShortestSquare': WHATEVER THE INPUT: true; the input reads as it did. -/
def fnExactShortestSquareSpec : ChangeSpec := { name := "fnExactShortestSquare", fn := fun _ => fun
  | [d] => { results := [.lit (.bool true)], args := [d] }
  | _ => none }
def fnExactShortestSquareRow : OpenClaim := { program := "ytoaonfacjcienab", sum := "198f761038bc532e38bb34b138fe88cb58b85b0ec355f0ada4cb220adef248b0", func := "loop.example/g02079/laws.FnExactShortestSquare", spec := "fnExactShortestSquare", apart := false }
def FnExactShortestSquareSaid : Prop := fnExactShortestSquareRow.holds Try.pinned (OpenSpec.ofChange fnExactShortestSquareSpec)

/-- ITS FALSE NEIGHBOUR: 'it returns false'. Refute it at one input. -/
def fnExactShortestSquareWrong : ChangeSpec := { name := "fnExactShortestSquare", fn := fun _ => fun
  | [d] => { results := [.lit (.bool false)], args := [d] }
  | _ => none }
def FnExactShortestSquareWrongFalsely : Prop := fnExactShortestSquareRow.holds Try.pinned (OpenSpec.ofChange fnExactShortestSquareWrong)

/-- 'laws.FnExactSquaresOf': WHATEVER THE INPUT: true; the input reads as it did. -/
def fnExactSquaresOfSpec : ChangeSpec := { name := "fnExactSquaresOf", fn := fun _ => fun
  | [d] => { results := [.lit (.bool true)], args := [d] }
  | _ => none }
def fnExactSquaresOfRow : OpenClaim := { program := "ytoaonfacjcienab", sum := "198f761038bc532e38bb34b138fe88cb58b85b0ec355f0ada4cb220adef248b0", func := "loop.example/g02079/laws.FnExactSquaresOf", spec := "fnExactSquaresOf", apart := false }
def FnExactSquaresOfSaid : Prop := fnExactSquaresOfRow.holds Try.pinned (OpenSpec.ofChange fnExactSquaresOfSpec)

/-- ITS FALSE NEIGHBOUR: 'it returns false'. Refute it at one input. -/
def fnExactSquaresOfWrong : ChangeSpec := { name := "fnExactSquaresOf", fn := fun _ => fun
  | [d] => { results := [.lit (.bool false)], args := [d] }
  | _ => none }
def FnExactSquaresOfWrongFalsely : Prop := fnExactSquaresOfRow.holds Try.pinned (OpenSpec.ofChange fnExactSquaresOfWrong)

/-- 'laws.FnExactLyndonWords': WHATEVER THE INPUT: true; the input reads as it did. -/
def fnExactLyndonWordsSpec : ChangeSpec := { name := "fnExactLyndonWords", fn := fun _ => fun
  | [d1, d2] => { results := [.lit (.bool true)], args := [d1, d2] }
  | _ => none }
def fnExactLyndonWordsRow : OpenClaim := { program := "ytoaonfacjcienab", sum := "198f761038bc532e38bb34b138fe88cb58b85b0ec355f0ada4cb220adef248b0", func := "loop.example/g02079/laws.FnExactLyndonWords", spec := "fnExactLyndonWords", apart := false }
def FnExactLyndonWordsSaid : Prop := fnExactLyndonWordsRow.holds Try.pinned (OpenSpec.ofChange fnExactLyndonWordsSpec)

/-- ITS FALSE NEIGHBOUR: 'it returns false'. Refute it at one input. -/
def fnExactLyndonWordsWrong : ChangeSpec := { name := "fnExactLyndonWords", fn := fun _ => fun
  | [d1, d2] => { results := [.lit (.bool false)], args := [d1, d2] }
  | _ => none }
def FnExactLyndonWordsWrongFalsely : Prop := fnExactLyndonWordsRow.holds Try.pinned (OpenSpec.ofChange fnExactLyndonWordsWrong)

/-- 'laws.FnExactApplyMorphism': WHATEVER THE INPUT: true; the input reads as it did. -/
def fnExactApplyMorphismSpec : ChangeSpec := { name := "fnExactApplyMorphism", fn := fun _ => fun
  | [d1, d2] => { results := [.lit (.bool true)], args := [d1, d2] }
  | _ => none }
def fnExactApplyMorphismRow : OpenClaim := { program := "ytoaonfacjcienab", sum := "198f761038bc532e38bb34b138fe88cb58b85b0ec355f0ada4cb220adef248b0", func := "loop.example/g02079/laws.FnExactApplyMorphism", spec := "fnExactApplyMorphism", apart := false }
def FnExactApplyMorphismSaid : Prop := fnExactApplyMorphismRow.holds Try.pinned (OpenSpec.ofChange fnExactApplyMorphismSpec)

/-- ITS FALSE NEIGHBOUR: 'it returns false'. Refute it at one input. -/
def fnExactApplyMorphismWrong : ChangeSpec := { name := "fnExactApplyMorphism", fn := fun _ => fun
  | [d1, d2] => { results := [.lit (.bool false)], args := [d1, d2] }
  | _ => none }
def FnExactApplyMorphismWrongFalsely : Prop := fnExactApplyMorphismRow.holds Try.pinned (OpenSpec.ofChange fnExactApplyMorphismWrong)

/-- 'laws.FnExactIsRelation': WHATEVER THE INPUT: true; the input reads as it did. -/
def fnExactIsRelationSpec : ChangeSpec := { name := "fnExactIsRelation", fn := fun _ => fun
  | [d] => { results := [.lit (.bool true)], args := [d] }
  | _ => none }
def fnExactIsRelationRow : OpenClaim := { program := "ytoaonfacjcienab", sum := "198f761038bc532e38bb34b138fe88cb58b85b0ec355f0ada4cb220adef248b0", func := "loop.example/g02079/laws.FnExactIsRelation", spec := "fnExactIsRelation", apart := false }
def FnExactIsRelationSaid : Prop := fnExactIsRelationRow.holds Try.pinned (OpenSpec.ofChange fnExactIsRelationSpec)

/-- ITS FALSE NEIGHBOUR: 'it returns false'. Refute it at one input. -/
def fnExactIsRelationWrong : ChangeSpec := { name := "fnExactIsRelation", fn := fun _ => fun
  | [d] => { results := [.lit (.bool false)], args := [d] }
  | _ => none }
def FnExactIsRelationWrongFalsely : Prop := fnExactIsRelationRow.holds Try.pinned (OpenSpec.ofChange fnExactIsRelationWrong)

/-- 'laws.FnExactSameRelation': WHATEVER THE INPUT: true; the input reads as it did. -/
def fnExactSameRelationSpec : ChangeSpec := { name := "fnExactSameRelation", fn := fun _ => fun
  | [d1, d2] => { results := [.lit (.bool true)], args := [d1, d2] }
  | _ => none }
def fnExactSameRelationRow : OpenClaim := { program := "ytoaonfacjcienab", sum := "198f761038bc532e38bb34b138fe88cb58b85b0ec355f0ada4cb220adef248b0", func := "loop.example/g02079/laws.FnExactSameRelation", spec := "fnExactSameRelation", unfollowed := true, recurses := true, apart := false }
def FnExactSameRelationSaid : Prop := fnExactSameRelationRow.holds Try.pinned (OpenSpec.ofChange fnExactSameRelationSpec)

/-- ITS FALSE NEIGHBOUR: 'it returns false'. Refute it at one input. -/
def fnExactSameRelationWrong : ChangeSpec := { name := "fnExactSameRelation", fn := fun _ => fun
  | [d1, d2] => { results := [.lit (.bool false)], args := [d1, d2] }
  | _ => none }
def FnExactSameRelationWrongFalsely : Prop := fnExactSameRelationRow.holds Try.pinned (OpenSpec.ofChange fnExactSameRelationWrong)

/-- 'laws.FnExactEqualRelation': WHATEVER THE INPUT: true; the input reads as it did. -/
def fnExactEqualRelationSpec : ChangeSpec := { name := "fnExactEqualRelation", fn := fun _ => fun
  | [d] => { results := [.lit (.bool true)], args := [d] }
  | _ => none }
def fnExactEqualRelationRow : OpenClaim := { program := "ytoaonfacjcienab", sum := "198f761038bc532e38bb34b138fe88cb58b85b0ec355f0ada4cb220adef248b0", func := "loop.example/g02079/laws.FnExactEqualRelation", spec := "fnExactEqualRelation", unfollowed := true, recurses := true, apart := false }
def FnExactEqualRelationSaid : Prop := fnExactEqualRelationRow.holds Try.pinned (OpenSpec.ofChange fnExactEqualRelationSpec)

/-- ITS FALSE NEIGHBOUR: 'it returns false'. Refute it at one input. -/
def fnExactEqualRelationWrong : ChangeSpec := { name := "fnExactEqualRelation", fn := fun _ => fun
  | [d] => { results := [.lit (.bool false)], args := [d] }
  | _ => none }
def FnExactEqualRelationWrongFalsely : Prop := fnExactEqualRelationRow.holds Try.pinned (OpenSpec.ofChange fnExactEqualRelationWrong)

/- THE SECOND FORM. 'bulk': how many values and letters a reading holds, each counted each time it is reached (what is shared counts as often as it is met; a slice's spare places count too). A statement '..UptoSaid' is the law's where the arguments, and the package variables that the reading takes, are together of bulk at most 1048576: NARROWER than '..Said'. Prove '..Said' where nothing that the law and all that it calls make is longer than what came in: it says more and counts as full. Else prove '..UptoSaid'. A law counts once. -/
mutual
def uptoBulk {H : Type} : DataW H → Nat
  | .lit (.string bytes) => bytes.length + 1
  | .lit _ => 1
  | .nil => 1
  | .ptr d => uptoBulk d + 1
  | .slice elems spare => uptoBulkAll elems + uptoBulkAll spare + 1
  | .agg parts => uptoBulkAll parts + 1
  | .iface _ d => uptoBulk d + 1
  | .map entries => uptoBulkEntries entries + 1
  | .held _ => 1
def uptoBulkAll {H : Type} : List (DataW H) → Nat
  | [] => 0
  | d :: r => uptoBulk d + uptoBulkAll r
def uptoBulkEntries {H : Type} : List (Lit × DataW H) → Nat
  | [] => 0
  | x :: r => uptoBulkEntry x + uptoBulkEntries r
def uptoBulkEntry {H : Type} : Lit × DataW H → Nat
  | (.string bytes, d) => bytes.length + uptoBulk d + 1
  | (_, d) => uptoBulk d + 1
 end
def uptoSmall : (H : Type) → List (DataW H) → Bool := fun _ ds => decide (uptoBulkAll ds ≤ 1048576)
def OpenSpec.upto (s : _root_.Go.ChangeSpec) : _root_.Go.OpenSpec := { _root_.Go.OpenSpec.ofChange s with cond := some uptoSmall }

/-- 'laws.FnExactStandardSplit', WHERE WHAT IT READS IS OF BULK AT MOST 1048576: true; the input reads as it did. -/
def fnExactStandardSplitUptoRow : OpenClaim := { program := "ytoaonfacjcienab", sum := "198f761038bc532e38bb34b138fe88cb58b85b0ec355f0ada4cb220adef248b0", func := "loop.example/g02079/laws.FnExactStandardSplit", spec := "fnExactStandardSplit", apart := false, narrowed := true }
def FnExactStandardSplitUptoSaid : Prop := fnExactStandardSplitUptoRow.holds Try.pinned (OpenSpec.upto fnExactStandardSplitSpec)

/-- 'laws.FnExactPeriodsOf', WHERE WHAT IT READS IS OF BULK AT MOST 1048576: true; the input reads as it did. -/
def fnExactPeriodsOfUptoRow : OpenClaim := { program := "ytoaonfacjcienab", sum := "198f761038bc532e38bb34b138fe88cb58b85b0ec355f0ada4cb220adef248b0", func := "loop.example/g02079/laws.FnExactPeriodsOf", spec := "fnExactPeriodsOf", apart := false, narrowed := true }
def FnExactPeriodsOfUptoSaid : Prop := fnExactPeriodsOfUptoRow.holds Try.pinned (OpenSpec.upto fnExactPeriodsOfSpec)

/-- 'laws.FnExactLyndonFactors', WHERE WHAT IT READS IS OF BULK AT MOST 1048576: true; the input reads as it did. -/
def fnExactLyndonFactorsUptoRow : OpenClaim := { program := "ytoaonfacjcienab", sum := "198f761038bc532e38bb34b138fe88cb58b85b0ec355f0ada4cb220adef248b0", func := "loop.example/g02079/laws.FnExactLyndonFactors", spec := "fnExactLyndonFactors", apart := false, narrowed := true }
def FnExactLyndonFactorsUptoSaid : Prop := fnExactLyndonFactorsUptoRow.holds Try.pinned (OpenSpec.upto fnExactLyndonFactorsSpec)

/-- 'laws.FnExactRootOf', WHERE WHAT IT READS IS OF BULK AT MOST 1048576: true; the input reads as it did. -/
def fnExactRootOfUptoRow : OpenClaim := { program := "ytoaonfacjcienab", sum := "198f761038bc532e38bb34b138fe88cb58b85b0ec355f0ada4cb220adef248b0", func := "loop.example/g02079/laws.FnExactRootOf", spec := "fnExactRootOf", apart := false, narrowed := true }
def FnExactRootOfUptoSaid : Prop := fnExactRootOfUptoRow.holds Try.pinned (OpenSpec.upto fnExactRootOfSpec)

/-- 'laws.FnExactExponentOf', WHERE WHAT IT READS IS OF BULK AT MOST 1048576: true; the input reads as it did. -/
def fnExactExponentOfUptoRow : OpenClaim := { program := "ytoaonfacjcienab", sum := "198f761038bc532e38bb34b138fe88cb58b85b0ec355f0ada4cb220adef248b0", func := "loop.example/g02079/laws.FnExactExponentOf", spec := "fnExactExponentOf", apart := false, narrowed := true }
def FnExactExponentOfUptoSaid : Prop := fnExactExponentOfUptoRow.holds Try.pinned (OpenSpec.upto fnExactExponentOfSpec)

/-- 'laws.FnExactShortestSquare', WHERE WHAT IT READS IS OF BULK AT MOST 1048576: true; the input reads as it did. -/
def fnExactShortestSquareUptoRow : OpenClaim := { program := "ytoaonfacjcienab", sum := "198f761038bc532e38bb34b138fe88cb58b85b0ec355f0ada4cb220adef248b0", func := "loop.example/g02079/laws.FnExactShortestSquare", spec := "fnExactShortestSquare", apart := false, narrowed := true }
def FnExactShortestSquareUptoSaid : Prop := fnExactShortestSquareUptoRow.holds Try.pinned (OpenSpec.upto fnExactShortestSquareSpec)

/-- 'laws.FnExactSquaresOf', WHERE WHAT IT READS IS OF BULK AT MOST 1048576: true; the input reads as it did. -/
def fnExactSquaresOfUptoRow : OpenClaim := { program := "ytoaonfacjcienab", sum := "198f761038bc532e38bb34b138fe88cb58b85b0ec355f0ada4cb220adef248b0", func := "loop.example/g02079/laws.FnExactSquaresOf", spec := "fnExactSquaresOf", apart := false, narrowed := true }
def FnExactSquaresOfUptoSaid : Prop := fnExactSquaresOfUptoRow.holds Try.pinned (OpenSpec.upto fnExactSquaresOfSpec)

/-- 'laws.FnExactLyndonWords', WHERE WHAT IT READS IS OF BULK AT MOST 1048576: true; the input reads as it did. -/
def fnExactLyndonWordsUptoRow : OpenClaim := { program := "ytoaonfacjcienab", sum := "198f761038bc532e38bb34b138fe88cb58b85b0ec355f0ada4cb220adef248b0", func := "loop.example/g02079/laws.FnExactLyndonWords", spec := "fnExactLyndonWords", apart := false, narrowed := true }
def FnExactLyndonWordsUptoSaid : Prop := fnExactLyndonWordsUptoRow.holds Try.pinned (OpenSpec.upto fnExactLyndonWordsSpec)

/-- 'laws.FnExactApplyMorphism', WHERE WHAT IT READS IS OF BULK AT MOST 1048576: true; the input reads as it did. -/
def fnExactApplyMorphismUptoRow : OpenClaim := { program := "ytoaonfacjcienab", sum := "198f761038bc532e38bb34b138fe88cb58b85b0ec355f0ada4cb220adef248b0", func := "loop.example/g02079/laws.FnExactApplyMorphism", spec := "fnExactApplyMorphism", apart := false, narrowed := true }
def FnExactApplyMorphismUptoSaid : Prop := fnExactApplyMorphismUptoRow.holds Try.pinned (OpenSpec.upto fnExactApplyMorphismSpec)

/-- 'laws.FnExactIsRelation', WHERE WHAT IT READS IS OF BULK AT MOST 1048576: true; the input reads as it did. -/
def fnExactIsRelationUptoRow : OpenClaim := { program := "ytoaonfacjcienab", sum := "198f761038bc532e38bb34b138fe88cb58b85b0ec355f0ada4cb220adef248b0", func := "loop.example/g02079/laws.FnExactIsRelation", spec := "fnExactIsRelation", apart := false, narrowed := true }
def FnExactIsRelationUptoSaid : Prop := fnExactIsRelationUptoRow.holds Try.pinned (OpenSpec.upto fnExactIsRelationSpec)

/-- 'laws.FnExactSameRelation', WHERE WHAT IT READS IS OF BULK AT MOST 1048576: true; the input reads as it did. -/
def fnExactSameRelationUptoRow : OpenClaim := { program := "ytoaonfacjcienab", sum := "198f761038bc532e38bb34b138fe88cb58b85b0ec355f0ada4cb220adef248b0", func := "loop.example/g02079/laws.FnExactSameRelation", spec := "fnExactSameRelation", unfollowed := true, recurses := true, apart := false, narrowed := true }
def FnExactSameRelationUptoSaid : Prop := fnExactSameRelationUptoRow.holds Try.pinned (OpenSpec.upto fnExactSameRelationSpec)

/-- 'laws.FnExactEqualRelation', WHERE WHAT IT READS IS OF BULK AT MOST 1048576: true; the input reads as it did. -/
def fnExactEqualRelationUptoRow : OpenClaim := { program := "ytoaonfacjcienab", sum := "198f761038bc532e38bb34b138fe88cb58b85b0ec355f0ada4cb220adef248b0", func := "loop.example/g02079/laws.FnExactEqualRelation", spec := "fnExactEqualRelation", unfollowed := true, recurses := true, apart := false, narrowed := true }
def FnExactEqualRelationUptoSaid : Prop := fnExactEqualRelationUptoRow.holds Try.pinned (OpenSpec.upto fnExactEqualRelationSpec)

end Rows
end Go.Proofs.Ytoaonfacjcienab
