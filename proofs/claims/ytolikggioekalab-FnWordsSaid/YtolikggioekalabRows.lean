/-
  No cell of these rows narrows 'for every input' (looked for: loops, veiled, ifaces, maps, wideKeys, modest, calm, conditions, laid).
  DERIVED. THE GIVEN ROWS OF THIS SEAT. 11 by the template 'for every input the law returns true; each argument reads behind the call as it read before'; 0 by the template 'total and deterministic' (their statements: YtolikggioekalabTotals.lean).
  GIVEN WITH THE SEED: the statements are not yours to turn. If you find one false, say at which input.
  Laid BY PROGRAM, IN A SANDBOX (cutbox-rows.mjs): the forced cells as the released guide's own fill.sh prints them over the translation bbb2a26d2224f3a0… (all of the seat's roots in one cut). By AI agents, Wed Nov 11 2026. No macro, syntax, notation, axiom, sorry.
-/
import Derived.Test.YtolikggioekalabChecked
import GoSem.Claim
import GoSem.ClaimJoined
import GoSem.ClaimMapViews
import Derived.JoinedTies
import Derived.KernelRfl
namespace Go.Proofs.Ytolikggioekalab
/- THE CELL 'sum', in the pinned program and in every row, IS THE sha256 OF THE DUMP (.gsa) THAT YtolikggioekalabProg.lean LOADS. Nothing in Lean hashes anything: it is a label: what it is worth is what the hold of that sum in a sandbox is worth. -/
noncomputable def Try.pinned : Pinned := { name := "ytolikggioekalab", sum := "bbb2a26d2224f3a0f61ce9b53f7892483c5c8fd267545c0ae6c107578d72bf4d", checked := Try.checked }
namespace Rows
def none {H : Type} : Left H := { results := [], args := [] }

/-- 'laws.FnExactConjugatesOf': WHATEVER THE INPUT: true; the input reads as it did. -/
def fnExactConjugatesOfSpec : ChangeSpec := { name := "fnExactConjugatesOf", fn := fun _ => fun
  | [d] => { results := [.lit (.bool true)], args := [d] }
  | _ => none }
def fnExactConjugatesOfRow : OpenClaim := { program := "ytolikggioekalab", sum := "bbb2a26d2224f3a0f61ce9b53f7892483c5c8fd267545c0ae6c107578d72bf4d", func := "loop.example/g02079/laws.FnExactConjugatesOf", spec := "fnExactConjugatesOf", unfollowed := true, recurses := true, apart := false }
def FnExactConjugatesOfSaid : Prop := fnExactConjugatesOfRow.holds Try.pinned (OpenSpec.ofChange fnExactConjugatesOfSpec)

/-- ITS FALSE NEIGHBOUR: 'it returns false'. Refute it at one input. -/
def fnExactConjugatesOfWrong : ChangeSpec := { name := "fnExactConjugatesOf", fn := fun _ => fun
  | [d] => { results := [.lit (.bool false)], args := [d] }
  | _ => none }
def FnExactConjugatesOfWrongFalsely : Prop := fnExactConjugatesOfRow.holds Try.pinned (OpenSpec.ofChange fnExactConjugatesOfWrong)

/-- 'laws.FnExactComplexityOf': WHATEVER THE INPUT: true; the input reads as it did. -/
def fnExactComplexityOfSpec : ChangeSpec := { name := "fnExactComplexityOf", fn := fun _ => fun
  | [d1, d2] => { results := [.lit (.bool true)], args := [d1, d2] }
  | _ => none }
def fnExactComplexityOfRow : OpenClaim := { program := "ytolikggioekalab", sum := "bbb2a26d2224f3a0f61ce9b53f7892483c5c8fd267545c0ae6c107578d72bf4d", func := "loop.example/g02079/laws.FnExactComplexityOf", spec := "fnExactComplexityOf", unfollowed := true, recurses := true, apart := false }
def FnExactComplexityOfSaid : Prop := fnExactComplexityOfRow.holds Try.pinned (OpenSpec.ofChange fnExactComplexityOfSpec)

/-- ITS FALSE NEIGHBOUR: 'it returns false'. Refute it at one input. -/
def fnExactComplexityOfWrong : ChangeSpec := { name := "fnExactComplexityOf", fn := fun _ => fun
  | [d1, d2] => { results := [.lit (.bool false)], args := [d1, d2] }
  | _ => none }
def FnExactComplexityOfWrongFalsely : Prop := fnExactComplexityOfRow.holds Try.pinned (OpenSpec.ofChange fnExactComplexityOfWrong)

/-- 'laws.FnExactRunsOf': WHATEVER THE INPUT: true; the input reads as it did. -/
def fnExactRunsOfSpec : ChangeSpec := { name := "fnExactRunsOf", fn := fun _ => fun
  | [d] => { results := [.lit (.bool true)], args := [d] }
  | _ => none }
def fnExactRunsOfRow : OpenClaim := { program := "ytolikggioekalab", sum := "bbb2a26d2224f3a0f61ce9b53f7892483c5c8fd267545c0ae6c107578d72bf4d", func := "loop.example/g02079/laws.FnExactRunsOf", spec := "fnExactRunsOf", unfollowed := true, recurses := true, apart := false }
def FnExactRunsOfSaid : Prop := fnExactRunsOfRow.holds Try.pinned (OpenSpec.ofChange fnExactRunsOfSpec)

/-- ITS FALSE NEIGHBOUR: 'it returns false'. Refute it at one input. -/
def fnExactRunsOfWrong : ChangeSpec := { name := "fnExactRunsOf", fn := fun _ => fun
  | [d] => { results := [.lit (.bool false)], args := [d] }
  | _ => none }
def FnExactRunsOfWrongFalsely : Prop := fnExactRunsOfRow.holds Try.pinned (OpenSpec.ofChange fnExactRunsOfWrong)

/-- 'laws.FnExactFactorsOf': WHATEVER THE INPUT: true; the input reads as it did. -/
def fnExactFactorsOfSpec : ChangeSpec := { name := "fnExactFactorsOf", fn := fun _ => fun
  | [d1, d2] => { results := [.lit (.bool true)], args := [d1, d2] }
  | _ => none }
def fnExactFactorsOfRow : OpenClaim := { program := "ytolikggioekalab", sum := "bbb2a26d2224f3a0f61ce9b53f7892483c5c8fd267545c0ae6c107578d72bf4d", func := "loop.example/g02079/laws.FnExactFactorsOf", spec := "fnExactFactorsOf", unfollowed := true, recurses := true, apart := false }
def FnExactFactorsOfSaid : Prop := fnExactFactorsOfRow.holds Try.pinned (OpenSpec.ofChange fnExactFactorsOfSpec)

/-- ITS FALSE NEIGHBOUR: 'it returns false'. Refute it at one input. -/
def fnExactFactorsOfWrong : ChangeSpec := { name := "fnExactFactorsOf", fn := fun _ => fun
  | [d1, d2] => { results := [.lit (.bool false)], args := [d1, d2] }
  | _ => none }
def FnExactFactorsOfWrongFalsely : Prop := fnExactFactorsOfRow.holds Try.pinned (OpenSpec.ofChange fnExactFactorsOfWrong)

/-- 'laws.FnExactReturnWords': WHATEVER THE INPUT: true; the input reads as it did. -/
def fnExactReturnWordsSpec : ChangeSpec := { name := "fnExactReturnWords", fn := fun _ => fun
  | [d1, d2] => { results := [.lit (.bool true)], args := [d1, d2] }
  | _ => none }
def fnExactReturnWordsRow : OpenClaim := { program := "ytolikggioekalab", sum := "bbb2a26d2224f3a0f61ce9b53f7892483c5c8fd267545c0ae6c107578d72bf4d", func := "loop.example/g02079/laws.FnExactReturnWords", spec := "fnExactReturnWords", unfollowed := true, recurses := true, apart := false }
def FnExactReturnWordsSaid : Prop := fnExactReturnWordsRow.holds Try.pinned (OpenSpec.ofChange fnExactReturnWordsSpec)

/-- ITS FALSE NEIGHBOUR: 'it returns false'. Refute it at one input. -/
def fnExactReturnWordsWrong : ChangeSpec := { name := "fnExactReturnWords", fn := fun _ => fun
  | [d1, d2] => { results := [.lit (.bool false)], args := [d1, d2] }
  | _ => none }
def FnExactReturnWordsWrongFalsely : Prop := fnExactReturnWordsRow.holds Try.pinned (OpenSpec.ofChange fnExactReturnWordsWrong)

/-- 'laws.FnExactPalindromesOf': WHATEVER THE INPUT: true; the input reads as it did. -/
def fnExactPalindromesOfSpec : ChangeSpec := { name := "fnExactPalindromesOf", fn := fun _ => fun
  | [d] => { results := [.lit (.bool true)], args := [d] }
  | _ => none }
def fnExactPalindromesOfRow : OpenClaim := { program := "ytolikggioekalab", sum := "bbb2a26d2224f3a0f61ce9b53f7892483c5c8fd267545c0ae6c107578d72bf4d", func := "loop.example/g02079/laws.FnExactPalindromesOf", spec := "fnExactPalindromesOf", unfollowed := true, recurses := true, apart := false }
def FnExactPalindromesOfSaid : Prop := fnExactPalindromesOfRow.holds Try.pinned (OpenSpec.ofChange fnExactPalindromesOfSpec)

/-- ITS FALSE NEIGHBOUR: 'it returns false'. Refute it at one input. -/
def fnExactPalindromesOfWrong : ChangeSpec := { name := "fnExactPalindromesOf", fn := fun _ => fun
  | [d] => { results := [.lit (.bool false)], args := [d] }
  | _ => none }
def FnExactPalindromesOfWrongFalsely : Prop := fnExactPalindromesOfRow.holds Try.pinned (OpenSpec.ofChange fnExactPalindromesOfWrong)

/-- 'laws.FnExactRightSpecial': WHATEVER THE INPUT: true; the input reads as it did. -/
def fnExactRightSpecialSpec : ChangeSpec := { name := "fnExactRightSpecial", fn := fun _ => fun
  | [d1, d2] => { results := [.lit (.bool true)], args := [d1, d2] }
  | _ => none }
def fnExactRightSpecialRow : OpenClaim := { program := "ytolikggioekalab", sum := "bbb2a26d2224f3a0f61ce9b53f7892483c5c8fd267545c0ae6c107578d72bf4d", func := "loop.example/g02079/laws.FnExactRightSpecial", spec := "fnExactRightSpecial", unfollowed := true, recurses := true, apart := false }
def FnExactRightSpecialSaid : Prop := fnExactRightSpecialRow.holds Try.pinned (OpenSpec.ofChange fnExactRightSpecialSpec)

/-- ITS FALSE NEIGHBOUR: 'it returns false'. Refute it at one input. -/
def fnExactRightSpecialWrong : ChangeSpec := { name := "fnExactRightSpecial", fn := fun _ => fun
  | [d1, d2] => { results := [.lit (.bool false)], args := [d1, d2] }
  | _ => none }
def FnExactRightSpecialWrongFalsely : Prop := fnExactRightSpecialRow.holds Try.pinned (OpenSpec.ofChange fnExactRightSpecialWrong)

/-- 'laws.FnExactRootOfRun': WHATEVER THE INPUT: true; the input reads as it did. -/
def fnExactRootOfRunSpec : ChangeSpec := { name := "fnExactRootOfRun", fn := fun _ => fun
  | [d1, d2] => { results := [.lit (.bool true)], args := [d1, d2] }
  | _ => none }
def fnExactRootOfRunRow : OpenClaim := { program := "ytolikggioekalab", sum := "bbb2a26d2224f3a0f61ce9b53f7892483c5c8fd267545c0ae6c107578d72bf4d", func := "loop.example/g02079/laws.FnExactRootOfRun", spec := "fnExactRootOfRun", unfollowed := true, recurses := true, apart := false }
def FnExactRootOfRunSaid : Prop := fnExactRootOfRunRow.holds Try.pinned (OpenSpec.ofChange fnExactRootOfRunSpec)

/-- ITS FALSE NEIGHBOUR: 'it returns false'. Refute it at one input. -/
def fnExactRootOfRunWrong : ChangeSpec := { name := "fnExactRootOfRun", fn := fun _ => fun
  | [d1, d2] => { results := [.lit (.bool false)], args := [d1, d2] }
  | _ => none }
def FnExactRootOfRunWrongFalsely : Prop := fnExactRootOfRunRow.holds Try.pinned (OpenSpec.ofChange fnExactRootOfRunWrong)

/-- 'laws.FnPowers': WHATEVER THE INPUT: true; the input reads as it did. -/
def fnPowersSpec : ChangeSpec := { name := "fnPowers", fn := fun _ => fun
  | [d] => { results := [.lit (.bool true)], args := [d] }
  | _ => none }
def fnPowersRow : OpenClaim := { program := "ytolikggioekalab", sum := "bbb2a26d2224f3a0f61ce9b53f7892483c5c8fd267545c0ae6c107578d72bf4d", func := "loop.example/g02079/laws.FnPowers", spec := "fnPowers", unfollowed := true, recurses := true, apart := false }
def FnPowersSaid : Prop := fnPowersRow.holds Try.pinned (OpenSpec.ofChange fnPowersSpec)

/-- ITS FALSE NEIGHBOUR: 'it returns false'. Refute it at one input. -/
def fnPowersWrong : ChangeSpec := { name := "fnPowers", fn := fun _ => fun
  | [d] => { results := [.lit (.bool false)], args := [d] }
  | _ => none }
def FnPowersWrongFalsely : Prop := fnPowersRow.holds Try.pinned (OpenSpec.ofChange fnPowersWrong)

/-- 'laws.FnWords': WHATEVER THE INPUT: true; the input reads as it did. -/
def fnWordsSpec : ChangeSpec := { name := "fnWords", fn := fun _ => fun
  | [d] => { results := [.lit (.bool true)], args := [d] }
  | _ => none }
def fnWordsRow : OpenClaim := { program := "ytolikggioekalab", sum := "bbb2a26d2224f3a0f61ce9b53f7892483c5c8fd267545c0ae6c107578d72bf4d", func := "loop.example/g02079/laws.FnWords", spec := "fnWords", inPlace := ["internal/bytealg.IndexByteString"], unfollowed := true, recurses := true, apart := false }
def FnWordsSaid : Prop := fnWordsRow.holds Try.pinned (OpenSpec.ofChange fnWordsSpec)

/-- ITS FALSE NEIGHBOUR: 'it returns false'. Refute it at one input. -/
def fnWordsWrong : ChangeSpec := { name := "fnWords", fn := fun _ => fun
  | [d] => { results := [.lit (.bool false)], args := [d] }
  | _ => none }
def FnWordsWrongFalsely : Prop := fnWordsRow.holds Try.pinned (OpenSpec.ofChange fnWordsWrong)

/-- 'laws.FnLyndon': WHATEVER THE INPUT: true; the input reads as it did. -/
def fnLyndonSpec : ChangeSpec := { name := "fnLyndon", fn := fun _ => fun
  | [d] => { results := [.lit (.bool true)], args := [d] }
  | _ => none }
def fnLyndonRow : OpenClaim := { program := "ytolikggioekalab", sum := "bbb2a26d2224f3a0f61ce9b53f7892483c5c8fd267545c0ae6c107578d72bf4d", func := "loop.example/g02079/laws.FnLyndon", spec := "fnLyndon", unfollowed := true, recurses := true, apart := false }
def FnLyndonSaid : Prop := fnLyndonRow.holds Try.pinned (OpenSpec.ofChange fnLyndonSpec)

/-- ITS FALSE NEIGHBOUR: 'it returns false'. Refute it at one input. -/
def fnLyndonWrong : ChangeSpec := { name := "fnLyndon", fn := fun _ => fun
  | [d] => { results := [.lit (.bool false)], args := [d] }
  | _ => none }
def FnLyndonWrongFalsely : Prop := fnLyndonRow.holds Try.pinned (OpenSpec.ofChange fnLyndonWrong)

/- THE SECOND FORM. 'bulk': how many values and letters a reading holds, each counted each time it is reached (what is shared counts as often as it is met; a slice's spare places count too). A statement '..UptoSaid' is the law's where the arguments, and the package variables that the reading takes, are together of bulk at most 1048576: NARROWER than '..Said'. Prove '..Said' where nothing that the law and all that it calls make is longer than what came in: it says more and counts as full. Else prove '..UptoSaid'. A law counts once. -/
mutual
def uptoBulk {H : Type} : DataW H → Nat
  | .lit (.string bytes) => bytes.length + 1
  | .lit _ => 1
  | .nil => 1
  | .ptr d => uptoBulk d + 1
  | .slice elems spare => uptoBulkAll elems + uptoBulkAll spare + 1
  | .agg parts => uptoBulkAll parts + 1
  | .iface _ d => uptoBulk d + 1
  | .map entries => uptoBulkEntries entries + 1
  | .held _ => 1
def uptoBulkAll {H : Type} : List (DataW H) → Nat
  | [] => 0
  | d :: r => uptoBulk d + uptoBulkAll r
def uptoBulkEntries {H : Type} : List (Lit × DataW H) → Nat
  | [] => 0
  | x :: r => uptoBulkEntry x + uptoBulkEntries r
def uptoBulkEntry {H : Type} : Lit × DataW H → Nat
  | (.string bytes, d) => bytes.length + uptoBulk d + 1
  | (_, d) => uptoBulk d + 1
 end
def uptoSmall : (H : Type) → List (DataW H) → Bool := fun _ ds => decide (uptoBulkAll ds ≤ 1048576)
def OpenSpec.upto (s : _root_.Go.ChangeSpec) : _root_.Go.OpenSpec := { _root_.Go.OpenSpec.ofChange s with cond := some uptoSmall }

/-- 'laws.FnExactConjugatesOf', WHERE WHAT IT READS IS OF BULK AT MOST 1048576: true; the input reads as it did. -/
def fnExactConjugatesOfUptoRow : OpenClaim := { program := "ytolikggioekalab", sum := "bbb2a26d2224f3a0f61ce9b53f7892483c5c8fd267545c0ae6c107578d72bf4d", func := "loop.example/g02079/laws.FnExactConjugatesOf", spec := "fnExactConjugatesOf", unfollowed := true, recurses := true, apart := false, narrowed := true }
def FnExactConjugatesOfUptoSaid : Prop := fnExactConjugatesOfUptoRow.holds Try.pinned (OpenSpec.upto fnExactConjugatesOfSpec)

/-- 'laws.FnExactComplexityOf', WHERE WHAT IT READS IS OF BULK AT MOST 1048576: true; the input reads as it did. -/
def fnExactComplexityOfUptoRow : OpenClaim := { program := "ytolikggioekalab", sum := "bbb2a26d2224f3a0f61ce9b53f7892483c5c8fd267545c0ae6c107578d72bf4d", func := "loop.example/g02079/laws.FnExactComplexityOf", spec := "fnExactComplexityOf", unfollowed := true, recurses := true, apart := false, narrowed := true }
def FnExactComplexityOfUptoSaid : Prop := fnExactComplexityOfUptoRow.holds Try.pinned (OpenSpec.upto fnExactComplexityOfSpec)

/-- 'laws.FnExactRunsOf', WHERE WHAT IT READS IS OF BULK AT MOST 1048576: true; the input reads as it did. -/
def fnExactRunsOfUptoRow : OpenClaim := { program := "ytolikggioekalab", sum := "bbb2a26d2224f3a0f61ce9b53f7892483c5c8fd267545c0ae6c107578d72bf4d", func := "loop.example/g02079/laws.FnExactRunsOf", spec := "fnExactRunsOf", unfollowed := true, recurses := true, apart := false, narrowed := true }
def FnExactRunsOfUptoSaid : Prop := fnExactRunsOfUptoRow.holds Try.pinned (OpenSpec.upto fnExactRunsOfSpec)

/-- 'laws.FnExactFactorsOf', WHERE WHAT IT READS IS OF BULK AT MOST 1048576: true; the input reads as it did. -/
def fnExactFactorsOfUptoRow : OpenClaim := { program := "ytolikggioekalab", sum := "bbb2a26d2224f3a0f61ce9b53f7892483c5c8fd267545c0ae6c107578d72bf4d", func := "loop.example/g02079/laws.FnExactFactorsOf", spec := "fnExactFactorsOf", unfollowed := true, recurses := true, apart := false, narrowed := true }
def FnExactFactorsOfUptoSaid : Prop := fnExactFactorsOfUptoRow.holds Try.pinned (OpenSpec.upto fnExactFactorsOfSpec)

/-- 'laws.FnExactReturnWords', WHERE WHAT IT READS IS OF BULK AT MOST 1048576: true; the input reads as it did. -/
def fnExactReturnWordsUptoRow : OpenClaim := { program := "ytolikggioekalab", sum := "bbb2a26d2224f3a0f61ce9b53f7892483c5c8fd267545c0ae6c107578d72bf4d", func := "loop.example/g02079/laws.FnExactReturnWords", spec := "fnExactReturnWords", unfollowed := true, recurses := true, apart := false, narrowed := true }
def FnExactReturnWordsUptoSaid : Prop := fnExactReturnWordsUptoRow.holds Try.pinned (OpenSpec.upto fnExactReturnWordsSpec)

/-- 'laws.FnExactPalindromesOf', WHERE WHAT IT READS IS OF BULK AT MOST 1048576: true; the input reads as it did. -/
def fnExactPalindromesOfUptoRow : OpenClaim := { program := "ytolikggioekalab", sum := "bbb2a26d2224f3a0f61ce9b53f7892483c5c8fd267545c0ae6c107578d72bf4d", func := "loop.example/g02079/laws.FnExactPalindromesOf", spec := "fnExactPalindromesOf", unfollowed := true, recurses := true, apart := false, narrowed := true }
def FnExactPalindromesOfUptoSaid : Prop := fnExactPalindromesOfUptoRow.holds Try.pinned (OpenSpec.upto fnExactPalindromesOfSpec)

/-- 'laws.FnExactRightSpecial', WHERE WHAT IT READS IS OF BULK AT MOST 1048576: true; the input reads as it did. -/
def fnExactRightSpecialUptoRow : OpenClaim := { program := "ytolikggioekalab", sum := "bbb2a26d2224f3a0f61ce9b53f7892483c5c8fd267545c0ae6c107578d72bf4d", func := "loop.example/g02079/laws.FnExactRightSpecial", spec := "fnExactRightSpecial", unfollowed := true, recurses := true, apart := false, narrowed := true }
def FnExactRightSpecialUptoSaid : Prop := fnExactRightSpecialUptoRow.holds Try.pinned (OpenSpec.upto fnExactRightSpecialSpec)

/-- 'laws.FnExactRootOfRun', WHERE WHAT IT READS IS OF BULK AT MOST 1048576: true; the input reads as it did. -/
def fnExactRootOfRunUptoRow : OpenClaim := { program := "ytolikggioekalab", sum := "bbb2a26d2224f3a0f61ce9b53f7892483c5c8fd267545c0ae6c107578d72bf4d", func := "loop.example/g02079/laws.FnExactRootOfRun", spec := "fnExactRootOfRun", unfollowed := true, recurses := true, apart := false, narrowed := true }
def FnExactRootOfRunUptoSaid : Prop := fnExactRootOfRunUptoRow.holds Try.pinned (OpenSpec.upto fnExactRootOfRunSpec)

/-- 'laws.FnPowers', WHERE WHAT IT READS IS OF BULK AT MOST 1048576: true; the input reads as it did. -/
def fnPowersUptoRow : OpenClaim := { program := "ytolikggioekalab", sum := "bbb2a26d2224f3a0f61ce9b53f7892483c5c8fd267545c0ae6c107578d72bf4d", func := "loop.example/g02079/laws.FnPowers", spec := "fnPowers", unfollowed := true, recurses := true, apart := false, narrowed := true }
def FnPowersUptoSaid : Prop := fnPowersUptoRow.holds Try.pinned (OpenSpec.upto fnPowersSpec)

/-- 'laws.FnWords', WHERE WHAT IT READS IS OF BULK AT MOST 1048576: true; the input reads as it did. -/
def fnWordsUptoRow : OpenClaim := { program := "ytolikggioekalab", sum := "bbb2a26d2224f3a0f61ce9b53f7892483c5c8fd267545c0ae6c107578d72bf4d", func := "loop.example/g02079/laws.FnWords", spec := "fnWords", inPlace := ["internal/bytealg.IndexByteString"], unfollowed := true, recurses := true, apart := false, narrowed := true }
def FnWordsUptoSaid : Prop := fnWordsUptoRow.holds Try.pinned (OpenSpec.upto fnWordsSpec)

/-- 'laws.FnLyndon', WHERE WHAT IT READS IS OF BULK AT MOST 1048576: true; the input reads as it did. -/
def fnLyndonUptoRow : OpenClaim := { program := "ytolikggioekalab", sum := "bbb2a26d2224f3a0f61ce9b53f7892483c5c8fd267545c0ae6c107578d72bf4d", func := "loop.example/g02079/laws.FnLyndon", spec := "fnLyndon", unfollowed := true, recurses := true, apart := false, narrowed := true }
def FnLyndonUptoSaid : Prop := fnLyndonUptoRow.holds Try.pinned (OpenSpec.upto fnLyndonSpec)

end Rows
end Go.Proofs.Ytolikggioekalab
