/-
  No cell of these rows narrows 'for every input' (looked for: loops, veiled, ifaces, maps, wideKeys, modest, calm, conditions, laid).
  DERIVED. THE GIVEN ROWS OF THIS SEAT. 6 by the template 'for every input the law returns true; each argument reads behind the call as it read before'; 0 by the template 'total and deterministic' (their statements: YtighhipoodijfaaTotals.lean).
  GIVEN WITH THE SEED: the statements are not yours to turn. If you find one false, say at which input.
  Laid BY PROGRAM, IN A SANDBOX (cutbox-rows.mjs): the forced cells as the released guide's own fill.sh prints them over the translation 02889dbfbd78ce37… (all of the seat's roots in one cut). By AI agents, Wed Nov 11 2026. No macro, syntax, notation, axiom, sorry.
-/
import Derived.Test.YtighhipoodijfaaChecked
import GoSem.Claim
import GoSem.ClaimJoined
import GoSem.ClaimMapViews
import Derived.JoinedTies
import Derived.KernelRfl
namespace Go.Proofs.Ytighhipoodijfaa
/- THE CELL 'sum', in the pinned program and in every row, IS THE sha256 OF THE DUMP (.gsa) THAT YtighhipoodijfaaProg.lean LOADS. Nothing in Lean hashes anything: it is a label: what it is worth is what the hold of that sum in a sandbox is worth. -/
noncomputable def Try.pinned : Pinned := { name := "ytighhipoodijfaa", sum := "02889dbfbd78ce37d4adc7747a50fa9e051264070113016cf96ed9e35cd704fe", checked := Try.checked }
namespace Rows
def none {H : Type} : Left H := { results := [], args := [] }

/-- 'laws.FnExactSquaresInRun': WHATEVER THE INPUT: true; the input reads as it did. -/
def fnExactSquaresInRunSpec : ChangeSpec := { name := "fnExactSquaresInRun", fn := fun _ => fun
  | [d] => { results := [.lit (.bool true)], args := [d] }
  | _ => none }
def fnExactSquaresInRunRow : OpenClaim := { program := "ytighhipoodijfaa", sum := "02889dbfbd78ce37d4adc7747a50fa9e051264070113016cf96ed9e35cd704fe", func := "loop.example/g02079/laws.FnExactSquaresInRun", spec := "fnExactSquaresInRun", apart := false }
def FnExactSquaresInRunSaid : Prop := fnExactSquaresInRunRow.holds Try.pinned (OpenSpec.ofChange fnExactSquaresInRunSpec)

/-- ITS FALSE NEIGHBOUR: 'it returns false'. Refute it at one input. -/
def fnExactSquaresInRunWrong : ChangeSpec := { name := "fnExactSquaresInRun", fn := fun _ => fun
  | [d] => { results := [.lit (.bool false)], args := [d] }
  | _ => none }
def FnExactSquaresInRunWrongFalsely : Prop := fnExactSquaresInRunRow.holds Try.pinned (OpenSpec.ofChange fnExactSquaresInRunWrong)

/-- 'laws.FnExactIsPalindrome': WHATEVER THE INPUT: true; the input reads as it did. -/
def fnExactIsPalindromeSpec : ChangeSpec := { name := "fnExactIsPalindrome", fn := fun _ => fun
  | [d] => { results := [.lit (.bool true)], args := [d] }
  | _ => none }
def fnExactIsPalindromeRow : OpenClaim := { program := "ytighhipoodijfaa", sum := "02889dbfbd78ce37d4adc7747a50fa9e051264070113016cf96ed9e35cd704fe", func := "loop.example/g02079/laws.FnExactIsPalindrome", spec := "fnExactIsPalindrome", apart := false }
def FnExactIsPalindromeSaid : Prop := fnExactIsPalindromeRow.holds Try.pinned (OpenSpec.ofChange fnExactIsPalindromeSpec)

/-- ITS FALSE NEIGHBOUR: 'it returns false'. Refute it at one input. -/
def fnExactIsPalindromeWrong : ChangeSpec := { name := "fnExactIsPalindrome", fn := fun _ => fun
  | [d] => { results := [.lit (.bool false)], args := [d] }
  | _ => none }
def FnExactIsPalindromeWrongFalsely : Prop := fnExactIsPalindromeRow.holds Try.pinned (OpenSpec.ofChange fnExactIsPalindromeWrong)

/-- 'laws.FnExactMirrorWord': WHATEVER THE INPUT: true; the input reads as it did. -/
def fnExactMirrorWordSpec : ChangeSpec := { name := "fnExactMirrorWord", fn := fun _ => fun
  | [d] => { results := [.lit (.bool true)], args := [d] }
  | _ => none }
def fnExactMirrorWordRow : OpenClaim := { program := "ytighhipoodijfaa", sum := "02889dbfbd78ce37d4adc7747a50fa9e051264070113016cf96ed9e35cd704fe", func := "loop.example/g02079/laws.FnExactMirrorWord", spec := "fnExactMirrorWord", apart := false }
def FnExactMirrorWordSaid : Prop := fnExactMirrorWordRow.holds Try.pinned (OpenSpec.ofChange fnExactMirrorWordSpec)

/-- ITS FALSE NEIGHBOUR: 'it returns false'. Refute it at one input. -/
def fnExactMirrorWordWrong : ChangeSpec := { name := "fnExactMirrorWord", fn := fun _ => fun
  | [d] => { results := [.lit (.bool false)], args := [d] }
  | _ => none }
def FnExactMirrorWordWrongFalsely : Prop := fnExactMirrorWordRow.holds Try.pinned (OpenSpec.ofChange fnExactMirrorWordWrong)

/-- 'laws.FnExactHasOverlap': WHATEVER THE INPUT: true; the input reads as it did. -/
def fnExactHasOverlapSpec : ChangeSpec := { name := "fnExactHasOverlap", fn := fun _ => fun
  | [d] => { results := [.lit (.bool true)], args := [d] }
  | _ => none }
def fnExactHasOverlapRow : OpenClaim := { program := "ytighhipoodijfaa", sum := "02889dbfbd78ce37d4adc7747a50fa9e051264070113016cf96ed9e35cd704fe", func := "loop.example/g02079/laws.FnExactHasOverlap", spec := "fnExactHasOverlap", apart := false }
def FnExactHasOverlapSaid : Prop := fnExactHasOverlapRow.holds Try.pinned (OpenSpec.ofChange fnExactHasOverlapSpec)

/-- ITS FALSE NEIGHBOUR: 'it returns false'. Refute it at one input. -/
def fnExactHasOverlapWrong : ChangeSpec := { name := "fnExactHasOverlap", fn := fun _ => fun
  | [d] => { results := [.lit (.bool false)], args := [d] }
  | _ => none }
def FnExactHasOverlapWrongFalsely : Prop := fnExactHasOverlapRow.holds Try.pinned (OpenSpec.ofChange fnExactHasOverlapWrong)

/-- 'laws.FnExactHasPower': WHATEVER THE INPUT: true; the input reads as it did. -/
def fnExactHasPowerSpec : ChangeSpec := { name := "fnExactHasPower", fn := fun _ => fun
  | [d1, d2, d3] => { results := [.lit (.bool true)], args := [d1, d2, d3] }
  | _ => none }
def fnExactHasPowerRow : OpenClaim := { program := "ytighhipoodijfaa", sum := "02889dbfbd78ce37d4adc7747a50fa9e051264070113016cf96ed9e35cd704fe", func := "loop.example/g02079/laws.FnExactHasPower", spec := "fnExactHasPower", apart := false }
def FnExactHasPowerSaid : Prop := fnExactHasPowerRow.holds Try.pinned (OpenSpec.ofChange fnExactHasPowerSpec)

/-- ITS FALSE NEIGHBOUR: 'it returns false'. Refute it at one input. -/
def fnExactHasPowerWrong : ChangeSpec := { name := "fnExactHasPower", fn := fun _ => fun
  | [d1, d2, d3] => { results := [.lit (.bool false)], args := [d1, d2, d3] }
  | _ => none }
def FnExactHasPowerWrongFalsely : Prop := fnExactHasPowerRow.holds Try.pinned (OpenSpec.ofChange fnExactHasPowerWrong)

/-- 'laws.FnExactIsFactor': WHATEVER THE INPUT: true; the input reads as it did. -/
def fnExactIsFactorSpec : ChangeSpec := { name := "fnExactIsFactor", fn := fun _ => fun
  | [d1, d2] => { results := [.lit (.bool true)], args := [d1, d2] }
  | _ => none }
def fnExactIsFactorRow : OpenClaim := { program := "ytighhipoodijfaa", sum := "02889dbfbd78ce37d4adc7747a50fa9e051264070113016cf96ed9e35cd704fe", func := "loop.example/g02079/laws.FnExactIsFactor", spec := "fnExactIsFactor", apart := false }
def FnExactIsFactorSaid : Prop := fnExactIsFactorRow.holds Try.pinned (OpenSpec.ofChange fnExactIsFactorSpec)

/-- ITS FALSE NEIGHBOUR: 'it returns false'. Refute it at one input. -/
def fnExactIsFactorWrong : ChangeSpec := { name := "fnExactIsFactor", fn := fun _ => fun
  | [d1, d2] => { results := [.lit (.bool false)], args := [d1, d2] }
  | _ => none }
def FnExactIsFactorWrongFalsely : Prop := fnExactIsFactorRow.holds Try.pinned (OpenSpec.ofChange fnExactIsFactorWrong)

/- THE SECOND FORM. 'bulk': how many values and letters a reading holds, each counted each time it is reached (what is shared counts as often as it is met; a slice's spare places count too). A statement '..UptoSaid' is the law's where the arguments, and the package variables that the reading takes, are together of bulk at most 1048576: NARROWER than '..Said'. Prove '..Said' where nothing that the law and all that it calls make is longer than what came in: it says more and counts as full. Else prove '..UptoSaid'. A law counts once. -/
mutual
def uptoBulk {H : Type} : DataW H → Nat
  | .lit (.string bytes) => bytes.length + 1
  | .lit _ => 1
  | .nil => 1
  | .ptr d => uptoBulk d + 1
  | .slice elems spare => uptoBulkAll elems + uptoBulkAll spare + 1
  | .agg parts => uptoBulkAll parts + 1
  | .iface _ d => uptoBulk d + 1
  | .map entries => uptoBulkEntries entries + 1
  | .held _ => 1
def uptoBulkAll {H : Type} : List (DataW H) → Nat
  | [] => 0
  | d :: r => uptoBulk d + uptoBulkAll r
def uptoBulkEntries {H : Type} : List (Lit × DataW H) → Nat
  | [] => 0
  | x :: r => uptoBulkEntry x + uptoBulkEntries r
def uptoBulkEntry {H : Type} : Lit × DataW H → Nat
  | (.string bytes, d) => bytes.length + uptoBulk d + 1
  | (_, d) => uptoBulk d + 1
 end
def uptoSmall : (H : Type) → List (DataW H) → Bool := fun _ ds => decide (uptoBulkAll ds ≤ 1048576)
def OpenSpec.upto (s : _root_.Go.ChangeSpec) : _root_.Go.OpenSpec := { _root_.Go.OpenSpec.ofChange s with cond := some uptoSmall }

/-- 'laws.FnExactSquaresInRun', WHERE WHAT IT READS IS OF BULK AT MOST 1048576: true; the input reads as it did. -/
def fnExactSquaresInRunUptoRow : OpenClaim := { program := "ytighhipoodijfaa", sum := "02889dbfbd78ce37d4adc7747a50fa9e051264070113016cf96ed9e35cd704fe", func := "loop.example/g02079/laws.FnExactSquaresInRun", spec := "fnExactSquaresInRun", apart := false, narrowed := true }
def FnExactSquaresInRunUptoSaid : Prop := fnExactSquaresInRunUptoRow.holds Try.pinned (OpenSpec.upto fnExactSquaresInRunSpec)

/-- 'laws.FnExactIsPalindrome', WHERE WHAT IT READS IS OF BULK AT MOST 1048576: true; the input reads as it did. -/
def fnExactIsPalindromeUptoRow : OpenClaim := { program := "ytighhipoodijfaa", sum := "02889dbfbd78ce37d4adc7747a50fa9e051264070113016cf96ed9e35cd704fe", func := "loop.example/g02079/laws.FnExactIsPalindrome", spec := "fnExactIsPalindrome", apart := false, narrowed := true }
def FnExactIsPalindromeUptoSaid : Prop := fnExactIsPalindromeUptoRow.holds Try.pinned (OpenSpec.upto fnExactIsPalindromeSpec)

/-- 'laws.FnExactMirrorWord', WHERE WHAT IT READS IS OF BULK AT MOST 1048576: true; the input reads as it did. -/
def fnExactMirrorWordUptoRow : OpenClaim := { program := "ytighhipoodijfaa", sum := "02889dbfbd78ce37d4adc7747a50fa9e051264070113016cf96ed9e35cd704fe", func := "loop.example/g02079/laws.FnExactMirrorWord", spec := "fnExactMirrorWord", apart := false, narrowed := true }
def FnExactMirrorWordUptoSaid : Prop := fnExactMirrorWordUptoRow.holds Try.pinned (OpenSpec.upto fnExactMirrorWordSpec)

/-- 'laws.FnExactHasOverlap', WHERE WHAT IT READS IS OF BULK AT MOST 1048576: true; the input reads as it did. -/
def fnExactHasOverlapUptoRow : OpenClaim := { program := "ytighhipoodijfaa", sum := "02889dbfbd78ce37d4adc7747a50fa9e051264070113016cf96ed9e35cd704fe", func := "loop.example/g02079/laws.FnExactHasOverlap", spec := "fnExactHasOverlap", apart := false, narrowed := true }
def FnExactHasOverlapUptoSaid : Prop := fnExactHasOverlapUptoRow.holds Try.pinned (OpenSpec.upto fnExactHasOverlapSpec)

/-- 'laws.FnExactHasPower', WHERE WHAT IT READS IS OF BULK AT MOST 1048576: true; the input reads as it did. -/
def fnExactHasPowerUptoRow : OpenClaim := { program := "ytighhipoodijfaa", sum := "02889dbfbd78ce37d4adc7747a50fa9e051264070113016cf96ed9e35cd704fe", func := "loop.example/g02079/laws.FnExactHasPower", spec := "fnExactHasPower", apart := false, narrowed := true }
def FnExactHasPowerUptoSaid : Prop := fnExactHasPowerUptoRow.holds Try.pinned (OpenSpec.upto fnExactHasPowerSpec)

/-- 'laws.FnExactIsFactor', WHERE WHAT IT READS IS OF BULK AT MOST 1048576: true; the input reads as it did. -/
def fnExactIsFactorUptoRow : OpenClaim := { program := "ytighhipoodijfaa", sum := "02889dbfbd78ce37d4adc7747a50fa9e051264070113016cf96ed9e35cd704fe", func := "loop.example/g02079/laws.FnExactIsFactor", spec := "fnExactIsFactor", apart := false, narrowed := true }
def FnExactIsFactorUptoSaid : Prop := fnExactIsFactorUptoRow.holds Try.pinned (OpenSpec.upto fnExactIsFactorSpec)

end Rows
end Go.Proofs.Ytighhipoodijfaa
