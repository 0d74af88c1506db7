/-
  No cell of these rows narrows 'for every input' (looked for: loops, veiled, ifaces, maps, wideKeys, modest, calm, conditions, laid).
  DERIVED. THE GIVEN ROWS OF THIS SEAT. 12 by the template 'for every input the law returns true; each argument reads behind the call as it read before'; 0 by the template 'total and deterministic' (their statements: YtoaonfacjcienaaTotals.lean).
  GIVEN WITH THE SEED: the statements are not yours to turn. If you find one false, say at which input.
  Laid BY PROGRAM, IN A SANDBOX (cutbox-rows.mjs): the forced cells as the released guide's own fill.sh prints them over the translation 238126a68fb74735… (all of the seat's roots in one cut). By AI agents, Wed Nov 11 2026. No macro, syntax, notation, axiom, sorry.
-/
import Derived.Test.YtoaonfacjcienaaChecked
import GoSem.Claim
import GoSem.ClaimJoined
import GoSem.ClaimMapViews
import Derived.JoinedTies
import Derived.KernelRfl
namespace Go.Proofs.Ytoaonfacjcienaa
/- THE CELL 'sum', in the pinned program and in every row, IS THE sha256 OF THE DUMP (.gsa) THAT YtoaonfacjcienaaProg.lean LOADS. Nothing in Lean hashes anything: it is a label: what it is worth is what the hold of that sum in a sandbox is worth. -/
noncomputable def Try.pinned : Pinned := { name := "ytoaonfacjcienaa", sum := "238126a68fb74735c844667531f868adc07b0c70ff9add104b9ba5b17b863bf7", checked := Try.checked }
namespace Rows
def none {H : Type} : Left H := { results := [], args := [] }

/-- 'laws.FnExactCountNecklaces': WHATEVER THE INPUT: true; the input reads as it did. -/
def fnExactCountNecklacesSpec : ChangeSpec := { name := "fnExactCountNecklaces", fn := fun _ => fun
  | [d1, d2] => { results := [.lit (.bool true)], args := [d1, d2] }
  | _ => none }
def fnExactCountNecklacesRow : OpenClaim := { program := "ytoaonfacjcienaa", sum := "238126a68fb74735c844667531f868adc07b0c70ff9add104b9ba5b17b863bf7", func := "loop.example/g02079/laws.FnExactCountNecklaces", spec := "fnExactCountNecklaces", unfollowed := true, recurses := true, apart := false }
def FnExactCountNecklacesSaid : Prop := fnExactCountNecklacesRow.holds Try.pinned (OpenSpec.ofChange fnExactCountNecklacesSpec)

/-- ITS FALSE NEIGHBOUR: 'it returns false'. Refute it at one input. -/
def fnExactCountNecklacesWrong : ChangeSpec := { name := "fnExactCountNecklaces", fn := fun _ => fun
  | [d1, d2] => { results := [.lit (.bool false)], args := [d1, d2] }
  | _ => none }
def FnExactCountNecklacesWrongFalsely : Prop := fnExactCountNecklacesRow.holds Try.pinned (OpenSpec.ofChange fnExactCountNecklacesWrong)

/-- 'laws.FnExactLongestPalindrome': WHATEVER THE INPUT: true; the input reads as it did. -/
def fnExactLongestPalindromeSpec : ChangeSpec := { name := "fnExactLongestPalindrome", fn := fun _ => fun
  | [d] => { results := [.lit (.bool true)], args := [d] }
  | _ => none }
def fnExactLongestPalindromeRow : OpenClaim := { program := "ytoaonfacjcienaa", sum := "238126a68fb74735c844667531f868adc07b0c70ff9add104b9ba5b17b863bf7", func := "loop.example/g02079/laws.FnExactLongestPalindrome", spec := "fnExactLongestPalindrome", apart := false }
def FnExactLongestPalindromeSaid : Prop := fnExactLongestPalindromeRow.holds Try.pinned (OpenSpec.ofChange fnExactLongestPalindromeSpec)

/-- ITS FALSE NEIGHBOUR: 'it returns false'. Refute it at one input. -/
def fnExactLongestPalindromeWrong : ChangeSpec := { name := "fnExactLongestPalindrome", fn := fun _ => fun
  | [d] => { results := [.lit (.bool false)], args := [d] }
  | _ => none }
def FnExactLongestPalindromeWrongFalsely : Prop := fnExactLongestPalindromeRow.holds Try.pinned (OpenSpec.ofChange fnExactLongestPalindromeWrong)

/-- 'laws.FnExactIsLyndon': WHATEVER THE INPUT: true; the input reads as it did. -/
def fnExactIsLyndonSpec : ChangeSpec := { name := "fnExactIsLyndon", fn := fun _ => fun
  | [d] => { results := [.lit (.bool true)], args := [d] }
  | _ => none }
def fnExactIsLyndonRow : OpenClaim := { program := "ytoaonfacjcienaa", sum := "238126a68fb74735c844667531f868adc07b0c70ff9add104b9ba5b17b863bf7", func := "loop.example/g02079/laws.FnExactIsLyndon", spec := "fnExactIsLyndon", apart := false }
def FnExactIsLyndonSaid : Prop := fnExactIsLyndonRow.holds Try.pinned (OpenSpec.ofChange fnExactIsLyndonSpec)

/-- ITS FALSE NEIGHBOUR: 'it returns false'. Refute it at one input. -/
def fnExactIsLyndonWrong : ChangeSpec := { name := "fnExactIsLyndon", fn := fun _ => fun
  | [d] => { results := [.lit (.bool false)], args := [d] }
  | _ => none }
def FnExactIsLyndonWrongFalsely : Prop := fnExactIsLyndonRow.holds Try.pinned (OpenSpec.ofChange fnExactIsLyndonWrong)

/-- 'laws.FnExactHasSquare': WHATEVER THE INPUT: true; the input reads as it did. -/
def fnExactHasSquareSpec : ChangeSpec := { name := "fnExactHasSquare", fn := fun _ => fun
  | [d] => { results := [.lit (.bool true)], args := [d] }
  | _ => none }
def fnExactHasSquareRow : OpenClaim := { program := "ytoaonfacjcienaa", sum := "238126a68fb74735c844667531f868adc07b0c70ff9add104b9ba5b17b863bf7", func := "loop.example/g02079/laws.FnExactHasSquare", spec := "fnExactHasSquare", apart := false }
def FnExactHasSquareSaid : Prop := fnExactHasSquareRow.holds Try.pinned (OpenSpec.ofChange fnExactHasSquareSpec)

/-- ITS FALSE NEIGHBOUR: 'it returns false'. Refute it at one input. -/
def fnExactHasSquareWrong : ChangeSpec := { name := "fnExactHasSquare", fn := fun _ => fun
  | [d] => { results := [.lit (.bool false)], args := [d] }
  | _ => none }
def FnExactHasSquareWrongFalsely : Prop := fnExactHasSquareRow.holds Try.pinned (OpenSpec.ofChange fnExactHasSquareWrong)

/-- 'laws.FnExactCountLyndon': WHATEVER THE INPUT: true; the input reads as it did. -/
def fnExactCountLyndonSpec : ChangeSpec := { name := "fnExactCountLyndon", fn := fun _ => fun
  | [d1, d2] => { results := [.lit (.bool true)], args := [d1, d2] }
  | _ => none }
def fnExactCountLyndonRow : OpenClaim := { program := "ytoaonfacjcienaa", sum := "238126a68fb74735c844667531f868adc07b0c70ff9add104b9ba5b17b863bf7", func := "loop.example/g02079/laws.FnExactCountLyndon", spec := "fnExactCountLyndon", unfollowed := true, recurses := true, apart := false }
def FnExactCountLyndonSaid : Prop := fnExactCountLyndonRow.holds Try.pinned (OpenSpec.ofChange fnExactCountLyndonSpec)

/-- ITS FALSE NEIGHBOUR: 'it returns false'. Refute it at one input. -/
def fnExactCountLyndonWrong : ChangeSpec := { name := "fnExactCountLyndon", fn := fun _ => fun
  | [d1, d2] => { results := [.lit (.bool false)], args := [d1, d2] }
  | _ => none }
def FnExactCountLyndonWrongFalsely : Prop := fnExactCountLyndonRow.holds Try.pinned (OpenSpec.ofChange fnExactCountLyndonWrong)

/-- 'laws.FnExactLetterOf': WHATEVER THE INPUT: true; the input reads as it did. -/
def fnExactLetterOfSpec : ChangeSpec := { name := "fnExactLetterOf", fn := fun _ => fun
  | [d1, d2] => { results := [.lit (.bool true)], args := [d1, d2] }
  | _ => none }
def fnExactLetterOfRow : OpenClaim := { program := "ytoaonfacjcienaa", sum := "238126a68fb74735c844667531f868adc07b0c70ff9add104b9ba5b17b863bf7", func := "loop.example/g02079/laws.FnExactLetterOf", spec := "fnExactLetterOf", apart := false }
def FnExactLetterOfSaid : Prop := fnExactLetterOfRow.holds Try.pinned (OpenSpec.ofChange fnExactLetterOfSpec)

/-- ITS FALSE NEIGHBOUR: 'it returns false'. Refute it at one input. -/
def fnExactLetterOfWrong : ChangeSpec := { name := "fnExactLetterOf", fn := fun _ => fun
  | [d1, d2] => { results := [.lit (.bool false)], args := [d1, d2] }
  | _ => none }
def FnExactLetterOfWrongFalsely : Prop := fnExactLetterOfRow.holds Try.pinned (OpenSpec.ofChange fnExactLetterOfWrong)

/-- 'laws.FnExactOccurrencesOf': WHATEVER THE INPUT: true; the input reads as it did. -/
def fnExactOccurrencesOfSpec : ChangeSpec := { name := "fnExactOccurrencesOf", fn := fun _ => fun
  | [d1, d2] => { results := [.lit (.bool true)], args := [d1, d2] }
  | _ => none }
def fnExactOccurrencesOfRow : OpenClaim := { program := "ytoaonfacjcienaa", sum := "238126a68fb74735c844667531f868adc07b0c70ff9add104b9ba5b17b863bf7", func := "loop.example/g02079/laws.FnExactOccurrencesOf", spec := "fnExactOccurrencesOf", apart := false }
def FnExactOccurrencesOfSaid : Prop := fnExactOccurrencesOfRow.holds Try.pinned (OpenSpec.ofChange fnExactOccurrencesOfSpec)

/-- ITS FALSE NEIGHBOUR: 'it returns false'. Refute it at one input. -/
def fnExactOccurrencesOfWrong : ChangeSpec := { name := "fnExactOccurrencesOf", fn := fun _ => fun
  | [d1, d2] => { results := [.lit (.bool false)], args := [d1, d2] }
  | _ => none }
def FnExactOccurrencesOfWrongFalsely : Prop := fnExactOccurrencesOfRow.holds Try.pinned (OpenSpec.ofChange fnExactOccurrencesOfWrong)

/-- 'laws.FnExactCompareWords': WHATEVER THE INPUT: true; the input reads as it did. -/
def fnExactCompareWordsSpec : ChangeSpec := { name := "fnExactCompareWords", fn := fun _ => fun
  | [d1, d2] => { results := [.lit (.bool true)], args := [d1, d2] }
  | _ => none }
def fnExactCompareWordsRow : OpenClaim := { program := "ytoaonfacjcienaa", sum := "238126a68fb74735c844667531f868adc07b0c70ff9add104b9ba5b17b863bf7", func := "loop.example/g02079/laws.FnExactCompareWords", spec := "fnExactCompareWords", apart := false }
def FnExactCompareWordsSaid : Prop := fnExactCompareWordsRow.holds Try.pinned (OpenSpec.ofChange fnExactCompareWordsSpec)

/-- ITS FALSE NEIGHBOUR: 'it returns false'. Refute it at one input. -/
def fnExactCompareWordsWrong : ChangeSpec := { name := "fnExactCompareWords", fn := fun _ => fun
  | [d1, d2] => { results := [.lit (.bool false)], args := [d1, d2] }
  | _ => none }
def FnExactCompareWordsWrongFalsely : Prop := fnExactCompareWordsRow.holds Try.pinned (OpenSpec.ofChange fnExactCompareWordsWrong)

/-- 'laws.FnExactLeastPeriod': WHATEVER THE INPUT: true; the input reads as it did. -/
def fnExactLeastPeriodSpec : ChangeSpec := { name := "fnExactLeastPeriod", fn := fun _ => fun
  | [d] => { results := [.lit (.bool true)], args := [d] }
  | _ => none }
def fnExactLeastPeriodRow : OpenClaim := { program := "ytoaonfacjcienaa", sum := "238126a68fb74735c844667531f868adc07b0c70ff9add104b9ba5b17b863bf7", func := "loop.example/g02079/laws.FnExactLeastPeriod", spec := "fnExactLeastPeriod", apart := false }
def FnExactLeastPeriodSaid : Prop := fnExactLeastPeriodRow.holds Try.pinned (OpenSpec.ofChange fnExactLeastPeriodSpec)

/-- ITS FALSE NEIGHBOUR: 'it returns false'. Refute it at one input. -/
def fnExactLeastPeriodWrong : ChangeSpec := { name := "fnExactLeastPeriod", fn := fun _ => fun
  | [d] => { results := [.lit (.bool false)], args := [d] }
  | _ => none }
def FnExactLeastPeriodWrongFalsely : Prop := fnExactLeastPeriodRow.holds Try.pinned (OpenSpec.ofChange fnExactLeastPeriodWrong)

/-- 'laws.FnExactGreatestExponent': WHATEVER THE INPUT: true; the input reads as it did. -/
def fnExactGreatestExponentSpec : ChangeSpec := { name := "fnExactGreatestExponent", fn := fun _ => fun
  | [d] => { results := [.lit (.bool true)], args := [d] }
  | _ => none }
def fnExactGreatestExponentRow : OpenClaim := { program := "ytoaonfacjcienaa", sum := "238126a68fb74735c844667531f868adc07b0c70ff9add104b9ba5b17b863bf7", func := "loop.example/g02079/laws.FnExactGreatestExponent", spec := "fnExactGreatestExponent", apart := false }
def FnExactGreatestExponentSaid : Prop := fnExactGreatestExponentRow.holds Try.pinned (OpenSpec.ofChange fnExactGreatestExponentSpec)

/-- ITS FALSE NEIGHBOUR: 'it returns false'. Refute it at one input. -/
def fnExactGreatestExponentWrong : ChangeSpec := { name := "fnExactGreatestExponent", fn := fun _ => fun
  | [d] => { results := [.lit (.bool false)], args := [d] }
  | _ => none }
def FnExactGreatestExponentWrongFalsely : Prop := fnExactGreatestExponentRow.holds Try.pinned (OpenSpec.ofChange fnExactGreatestExponentWrong)

/-- 'laws.FnExactBordersOf': WHATEVER THE INPUT: true; the input reads as it did. -/
def fnExactBordersOfSpec : ChangeSpec := { name := "fnExactBordersOf", fn := fun _ => fun
  | [d] => { results := [.lit (.bool true)], args := [d] }
  | _ => none }
def fnExactBordersOfRow : OpenClaim := { program := "ytoaonfacjcienaa", sum := "238126a68fb74735c844667531f868adc07b0c70ff9add104b9ba5b17b863bf7", func := "loop.example/g02079/laws.FnExactBordersOf", spec := "fnExactBordersOf", apart := false }
def FnExactBordersOfSaid : Prop := fnExactBordersOfRow.holds Try.pinned (OpenSpec.ofChange fnExactBordersOfSpec)

/-- ITS FALSE NEIGHBOUR: 'it returns false'. Refute it at one input. -/
def fnExactBordersOfWrong : ChangeSpec := { name := "fnExactBordersOf", fn := fun _ => fun
  | [d] => { results := [.lit (.bool false)], args := [d] }
  | _ => none }
def FnExactBordersOfWrongFalsely : Prop := fnExactBordersOfRow.holds Try.pinned (OpenSpec.ofChange fnExactBordersOfWrong)

/-- 'laws.FnExactIsPrimitive': WHATEVER THE INPUT: true; the input reads as it did. -/
def fnExactIsPrimitiveSpec : ChangeSpec := { name := "fnExactIsPrimitive", fn := fun _ => fun
  | [d] => { results := [.lit (.bool true)], args := [d] }
  | _ => none }
def fnExactIsPrimitiveRow : OpenClaim := { program := "ytoaonfacjcienaa", sum := "238126a68fb74735c844667531f868adc07b0c70ff9add104b9ba5b17b863bf7", func := "loop.example/g02079/laws.FnExactIsPrimitive", spec := "fnExactIsPrimitive", apart := false }
def FnExactIsPrimitiveSaid : Prop := fnExactIsPrimitiveRow.holds Try.pinned (OpenSpec.ofChange fnExactIsPrimitiveSpec)

/-- ITS FALSE NEIGHBOUR: 'it returns false'. Refute it at one input. -/
def fnExactIsPrimitiveWrong : ChangeSpec := { name := "fnExactIsPrimitive", fn := fun _ => fun
  | [d] => { results := [.lit (.bool false)], args := [d] }
  | _ => none }
def FnExactIsPrimitiveWrongFalsely : Prop := fnExactIsPrimitiveRow.holds Try.pinned (OpenSpec.ofChange fnExactIsPrimitiveWrong)

/- THE SECOND FORM. 'bulk': how many values and letters a reading holds, each counted each time it is reached (what is shared counts as often as it is met; a slice's spare places count too). A statement '..UptoSaid' is the law's where the arguments, and the package variables that the reading takes, are together of bulk at most 1048576: NARROWER than '..Said'. Prove '..Said' where nothing that the law and all that it calls make is longer than what came in: it says more and counts as full. Else prove '..UptoSaid'. A law counts once. -/
mutual
def uptoBulk {H : Type} : DataW H → Nat
  | .lit (.string bytes) => bytes.length + 1
  | .lit _ => 1
  | .nil => 1
  | .ptr d => uptoBulk d + 1
  | .slice elems spare => uptoBulkAll elems + uptoBulkAll spare + 1
  | .agg parts => uptoBulkAll parts + 1
  | .iface _ d => uptoBulk d + 1
  | .map entries => uptoBulkEntries entries + 1
  | .held _ => 1
def uptoBulkAll {H : Type} : List (DataW H) → Nat
  | [] => 0
  | d :: r => uptoBulk d + uptoBulkAll r
def uptoBulkEntries {H : Type} : List (Lit × DataW H) → Nat
  | [] => 0
  | x :: r => uptoBulkEntry x + uptoBulkEntries r
def uptoBulkEntry {H : Type} : Lit × DataW H → Nat
  | (.string bytes, d) => bytes.length + uptoBulk d + 1
  | (_, d) => uptoBulk d + 1
 end
def uptoSmall : (H : Type) → List (DataW H) → Bool := fun _ ds => decide (uptoBulkAll ds ≤ 1048576)
def OpenSpec.upto (s : _root_.Go.ChangeSpec) : _root_.Go.OpenSpec := { _root_.Go.OpenSpec.ofChange s with cond := some uptoSmall }

/-- 'laws.FnExactCountNecklaces', WHERE WHAT IT READS IS OF BULK AT MOST 1048576: true; the input reads as it did. -/
def fnExactCountNecklacesUptoRow : OpenClaim := { program := "ytoaonfacjcienaa", sum := "238126a68fb74735c844667531f868adc07b0c70ff9add104b9ba5b17b863bf7", func := "loop.example/g02079/laws.FnExactCountNecklaces", spec := "fnExactCountNecklaces", unfollowed := true, recurses := true, apart := false, narrowed := true }
def FnExactCountNecklacesUptoSaid : Prop := fnExactCountNecklacesUptoRow.holds Try.pinned (OpenSpec.upto fnExactCountNecklacesSpec)

/-- 'laws.FnExactLongestPalindrome', WHERE WHAT IT READS IS OF BULK AT MOST 1048576: true; the input reads as it did. -/
def fnExactLongestPalindromeUptoRow : OpenClaim := { program := "ytoaonfacjcienaa", sum := "238126a68fb74735c844667531f868adc07b0c70ff9add104b9ba5b17b863bf7", func := "loop.example/g02079/laws.FnExactLongestPalindrome", spec := "fnExactLongestPalindrome", apart := false, narrowed := true }
def FnExactLongestPalindromeUptoSaid : Prop := fnExactLongestPalindromeUptoRow.holds Try.pinned (OpenSpec.upto fnExactLongestPalindromeSpec)

/-- 'laws.FnExactIsLyndon', WHERE WHAT IT READS IS OF BULK AT MOST 1048576: true; the input reads as it did. -/
def fnExactIsLyndonUptoRow : OpenClaim := { program := "ytoaonfacjcienaa", sum := "238126a68fb74735c844667531f868adc07b0c70ff9add104b9ba5b17b863bf7", func := "loop.example/g02079/laws.FnExactIsLyndon", spec := "fnExactIsLyndon", apart := false, narrowed := true }
def FnExactIsLyndonUptoSaid : Prop := fnExactIsLyndonUptoRow.holds Try.pinned (OpenSpec.upto fnExactIsLyndonSpec)

/-- 'laws.FnExactHasSquare', WHERE WHAT IT READS IS OF BULK AT MOST 1048576: true; the input reads as it did. -/
def fnExactHasSquareUptoRow : OpenClaim := { program := "ytoaonfacjcienaa", sum := "238126a68fb74735c844667531f868adc07b0c70ff9add104b9ba5b17b863bf7", func := "loop.example/g02079/laws.FnExactHasSquare", spec := "fnExactHasSquare", apart := false, narrowed := true }
def FnExactHasSquareUptoSaid : Prop := fnExactHasSquareUptoRow.holds Try.pinned (OpenSpec.upto fnExactHasSquareSpec)

/-- 'laws.FnExactCountLyndon', WHERE WHAT IT READS IS OF BULK AT MOST 1048576: true; the input reads as it did. -/
def fnExactCountLyndonUptoRow : OpenClaim := { program := "ytoaonfacjcienaa", sum := "238126a68fb74735c844667531f868adc07b0c70ff9add104b9ba5b17b863bf7", func := "loop.example/g02079/laws.FnExactCountLyndon", spec := "fnExactCountLyndon", unfollowed := true, recurses := true, apart := false, narrowed := true }
def FnExactCountLyndonUptoSaid : Prop := fnExactCountLyndonUptoRow.holds Try.pinned (OpenSpec.upto fnExactCountLyndonSpec)

/-- 'laws.FnExactLetterOf', WHERE WHAT IT READS IS OF BULK AT MOST 1048576: true; the input reads as it did. -/
def fnExactLetterOfUptoRow : OpenClaim := { program := "ytoaonfacjcienaa", sum := "238126a68fb74735c844667531f868adc07b0c70ff9add104b9ba5b17b863bf7", func := "loop.example/g02079/laws.FnExactLetterOf", spec := "fnExactLetterOf", apart := false, narrowed := true }
def FnExactLetterOfUptoSaid : Prop := fnExactLetterOfUptoRow.holds Try.pinned (OpenSpec.upto fnExactLetterOfSpec)

/-- 'laws.FnExactOccurrencesOf', WHERE WHAT IT READS IS OF BULK AT MOST 1048576: true; the input reads as it did. -/
def fnExactOccurrencesOfUptoRow : OpenClaim := { program := "ytoaonfacjcienaa", sum := "238126a68fb74735c844667531f868adc07b0c70ff9add104b9ba5b17b863bf7", func := "loop.example/g02079/laws.FnExactOccurrencesOf", spec := "fnExactOccurrencesOf", apart := false, narrowed := true }
def FnExactOccurrencesOfUptoSaid : Prop := fnExactOccurrencesOfUptoRow.holds Try.pinned (OpenSpec.upto fnExactOccurrencesOfSpec)

/-- 'laws.FnExactCompareWords', WHERE WHAT IT READS IS OF BULK AT MOST 1048576: true; the input reads as it did. -/
def fnExactCompareWordsUptoRow : OpenClaim := { program := "ytoaonfacjcienaa", sum := "238126a68fb74735c844667531f868adc07b0c70ff9add104b9ba5b17b863bf7", func := "loop.example/g02079/laws.FnExactCompareWords", spec := "fnExactCompareWords", apart := false, narrowed := true }
def FnExactCompareWordsUptoSaid : Prop := fnExactCompareWordsUptoRow.holds Try.pinned (OpenSpec.upto fnExactCompareWordsSpec)

/-- 'laws.FnExactLeastPeriod', WHERE WHAT IT READS IS OF BULK AT MOST 1048576: true; the input reads as it did. -/
def fnExactLeastPeriodUptoRow : OpenClaim := { program := "ytoaonfacjcienaa", sum := "238126a68fb74735c844667531f868adc07b0c70ff9add104b9ba5b17b863bf7", func := "loop.example/g02079/laws.FnExactLeastPeriod", spec := "fnExactLeastPeriod", apart := false, narrowed := true }
def FnExactLeastPeriodUptoSaid : Prop := fnExactLeastPeriodUptoRow.holds Try.pinned (OpenSpec.upto fnExactLeastPeriodSpec)

/-- 'laws.FnExactGreatestExponent', WHERE WHAT IT READS IS OF BULK AT MOST 1048576: true; the input reads as it did. -/
def fnExactGreatestExponentUptoRow : OpenClaim := { program := "ytoaonfacjcienaa", sum := "238126a68fb74735c844667531f868adc07b0c70ff9add104b9ba5b17b863bf7", func := "loop.example/g02079/laws.FnExactGreatestExponent", spec := "fnExactGreatestExponent", apart := false, narrowed := true }
def FnExactGreatestExponentUptoSaid : Prop := fnExactGreatestExponentUptoRow.holds Try.pinned (OpenSpec.upto fnExactGreatestExponentSpec)

/-- 'laws.FnExactBordersOf', WHERE WHAT IT READS IS OF BULK AT MOST 1048576: true; the input reads as it did. -/
def fnExactBordersOfUptoRow : OpenClaim := { program := "ytoaonfacjcienaa", sum := "238126a68fb74735c844667531f868adc07b0c70ff9add104b9ba5b17b863bf7", func := "loop.example/g02079/laws.FnExactBordersOf", spec := "fnExactBordersOf", apart := false, narrowed := true }
def FnExactBordersOfUptoSaid : Prop := fnExactBordersOfUptoRow.holds Try.pinned (OpenSpec.upto fnExactBordersOfSpec)

/-- 'laws.FnExactIsPrimitive', WHERE WHAT IT READS IS OF BULK AT MOST 1048576: true; the input reads as it did. -/
def fnExactIsPrimitiveUptoRow : OpenClaim := { program := "ytoaonfacjcienaa", sum := "238126a68fb74735c844667531f868adc07b0c70ff9add104b9ba5b17b863bf7", func := "loop.example/g02079/laws.FnExactIsPrimitive", spec := "fnExactIsPrimitive", apart := false, narrowed := true }
def FnExactIsPrimitiveUptoSaid : Prop := fnExactIsPrimitiveUptoRow.holds Try.pinned (OpenSpec.upto fnExactIsPrimitiveSpec)

end Rows
end Go.Proofs.Ytoaonfacjcienaa
