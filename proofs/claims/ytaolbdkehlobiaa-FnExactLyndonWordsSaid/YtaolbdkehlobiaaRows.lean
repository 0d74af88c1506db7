/-
  No cell of these rows narrows 'for every input' (looked for: loops, veiled, ifaces, maps, wideKeys, modest, calm, conditions, laid).
  DERIVED. THE GIVEN ROWS OF THIS SEAT. 3 by the template 'for every input the law returns true; each argument reads behind the call as it read before'; 0 by the template 'total and deterministic' (their statements: YtaolbdkehlobiaaTotals.lean).
  GIVEN WITH THE SEED: the statements are not yours to turn. If you find one false, say at which input.
  Laid BY PROGRAM, IN A SANDBOX (cutbox-rows.mjs): the forced cells as the released guide's own fill.sh prints them over the translation 97775cbb2f13bc16… (all of the seat's roots in one cut). By AI agents, Wed Nov 11 2026. No macro, syntax, notation, axiom, sorry.
-/
import Derived.Test.YtaolbdkehlobiaaChecked
import GoSem.Claim
import GoSem.ClaimJoined
import GoSem.ClaimMapViews
import Derived.JoinedTies
import Derived.KernelRfl
namespace Go.Proofs.Ytaolbdkehlobiaa
/- THE CELL 'sum', in the pinned program and in every row, IS THE sha256 OF THE DUMP (.gsa) THAT YtaolbdkehlobiaaProg.lean LOADS. Nothing in Lean hashes anything: it is a label: what it is worth is what the hold of that sum in a sandbox is worth. -/
noncomputable def Try.pinned : Pinned := { name := "ytaolbdkehlobiaa", sum := "97775cbb2f13bc1669f7d91767922d73ae7a93f124fc3fc478725d70189c3099", checked := Try.checked }
namespace Rows
def none {H : Type} : Left H := { results := [], args := [] }

/-- 'laws.FnExactLyndonWords': WHATEVER THE INPUT: true; the input reads as it did. -/
def fnExactLyndonWordsSpec : ChangeSpec := { name := "fnExactLyndonWords", fn := fun _ => fun
  | [d1, d2] => { results := [.lit (.bool true)], args := [d1, d2] }
  | _ => none }
def fnExactLyndonWordsRow : OpenClaim := { program := "ytaolbdkehlobiaa", sum := "97775cbb2f13bc1669f7d91767922d73ae7a93f124fc3fc478725d70189c3099", func := "loop.example/g02079/laws.FnExactLyndonWords", spec := "fnExactLyndonWords", apart := false }
def FnExactLyndonWordsSaid : Prop := fnExactLyndonWordsRow.holds Try.pinned (OpenSpec.ofChange fnExactLyndonWordsSpec)

/-- ITS FALSE NEIGHBOUR: 'it returns false'. Refute it at one input. -/
def fnExactLyndonWordsWrong : ChangeSpec := { name := "fnExactLyndonWords", fn := fun _ => fun
  | [d1, d2] => { results := [.lit (.bool false)], args := [d1, d2] }
  | _ => none }
def FnExactLyndonWordsWrongFalsely : Prop := fnExactLyndonWordsRow.holds Try.pinned (OpenSpec.ofChange fnExactLyndonWordsWrong)

/-- 'laws.FnExactSameRelation': WHATEVER THE INPUT: true; the input reads as it did. -/
def fnExactSameRelationSpec : ChangeSpec := { name := "fnExactSameRelation", fn := fun _ => fun
  | [d1, d2] => { results := [.lit (.bool true)], args := [d1, d2] }
  | _ => none }
def fnExactSameRelationRow : OpenClaim := { program := "ytaolbdkehlobiaa", sum := "97775cbb2f13bc1669f7d91767922d73ae7a93f124fc3fc478725d70189c3099", func := "loop.example/g02079/laws.FnExactSameRelation", spec := "fnExactSameRelation", unfollowed := true, recurses := true, apart := false }
def FnExactSameRelationSaid : Prop := fnExactSameRelationRow.holds Try.pinned (OpenSpec.ofChange fnExactSameRelationSpec)

/-- ITS FALSE NEIGHBOUR: 'it returns false'. Refute it at one input. -/
def fnExactSameRelationWrong : ChangeSpec := { name := "fnExactSameRelation", fn := fun _ => fun
  | [d1, d2] => { results := [.lit (.bool false)], args := [d1, d2] }
  | _ => none }
def FnExactSameRelationWrongFalsely : Prop := fnExactSameRelationRow.holds Try.pinned (OpenSpec.ofChange fnExactSameRelationWrong)

/-- 'laws.FnExactEqualRelation': WHATEVER THE INPUT: true; the input reads as it did. -/
def fnExactEqualRelationSpec : ChangeSpec := { name := "fnExactEqualRelation", fn := fun _ => fun
  | [d] => { results := [.lit (.bool true)], args := [d] }
  | _ => none }
def fnExactEqualRelationRow : OpenClaim := { program := "ytaolbdkehlobiaa", sum := "97775cbb2f13bc1669f7d91767922d73ae7a93f124fc3fc478725d70189c3099", func := "loop.example/g02079/laws.FnExactEqualRelation", spec := "fnExactEqualRelation", unfollowed := true, recurses := true, apart := false }
def FnExactEqualRelationSaid : Prop := fnExactEqualRelationRow.holds Try.pinned (OpenSpec.ofChange fnExactEqualRelationSpec)

/-- ITS FALSE NEIGHBOUR: 'it returns false'. Refute it at one input. -/
def fnExactEqualRelationWrong : ChangeSpec := { name := "fnExactEqualRelation", fn := fun _ => fun
  | [d] => { results := [.lit (.bool false)], args := [d] }
  | _ => none }
def FnExactEqualRelationWrongFalsely : Prop := fnExactEqualRelationRow.holds Try.pinned (OpenSpec.ofChange fnExactEqualRelationWrong)

/- THE SECOND FORM. 'bulk': how many values and letters a reading holds, each counted each time it is reached (what is shared counts as often as it is met; a slice's spare places count too). A statement '..UptoSaid' is the law's where the arguments, and the package variables that the reading takes, are together of bulk at most 1048576: NARROWER than '..Said'. Prove '..Said' where nothing that the law and all that it calls make is longer than what came in: it says more and counts as full. Else prove '..UptoSaid'. A law counts once. -/
mutual
def uptoBulk {H : Type} : DataW H → Nat
  | .lit (.string bytes) => bytes.length + 1
  | .lit _ => 1
  | .nil => 1
  | .ptr d => uptoBulk d + 1
  | .slice elems spare => uptoBulkAll elems + uptoBulkAll spare + 1
  | .agg parts => uptoBulkAll parts + 1
  | .iface _ d => uptoBulk d + 1
  | .map entries => uptoBulkEntries entries + 1
  | .held _ => 1
def uptoBulkAll {H : Type} : List (DataW H) → Nat
  | [] => 0
  | d :: r => uptoBulk d + uptoBulkAll r
def uptoBulkEntries {H : Type} : List (Lit × DataW H) → Nat
  | [] => 0
  | x :: r => uptoBulkEntry x + uptoBulkEntries r
def uptoBulkEntry {H : Type} : Lit × DataW H → Nat
  | (.string bytes, d) => bytes.length + uptoBulk d + 1
  | (_, d) => uptoBulk d + 1
 end
def uptoSmall : (H : Type) → List (DataW H) → Bool := fun _ ds => decide (uptoBulkAll ds ≤ 1048576)
def OpenSpec.upto (s : _root_.Go.ChangeSpec) : _root_.Go.OpenSpec := { _root_.Go.OpenSpec.ofChange s with cond := some uptoSmall }

/-- 'laws.FnExactLyndonWords', WHERE WHAT IT READS IS OF BULK AT MOST 1048576: true; the input reads as it did. -/
def fnExactLyndonWordsUptoRow : OpenClaim := { program := "ytaolbdkehlobiaa", sum := "97775cbb2f13bc1669f7d91767922d73ae7a93f124fc3fc478725d70189c3099", func := "loop.example/g02079/laws.FnExactLyndonWords", spec := "fnExactLyndonWords", apart := false, narrowed := true }
def FnExactLyndonWordsUptoSaid : Prop := fnExactLyndonWordsUptoRow.holds Try.pinned (OpenSpec.upto fnExactLyndonWordsSpec)

/-- 'laws.FnExactSameRelation', WHERE WHAT IT READS IS OF BULK AT MOST 1048576: true; the input reads as it did. -/
def fnExactSameRelationUptoRow : OpenClaim := { program := "ytaolbdkehlobiaa", sum := "97775cbb2f13bc1669f7d91767922d73ae7a93f124fc3fc478725d70189c3099", func := "loop.example/g02079/laws.FnExactSameRelation", spec := "fnExactSameRelation", unfollowed := true, recurses := true, apart := false, narrowed := true }
def FnExactSameRelationUptoSaid : Prop := fnExactSameRelationUptoRow.holds Try.pinned (OpenSpec.upto fnExactSameRelationSpec)

/-- 'laws.FnExactEqualRelation', WHERE WHAT IT READS IS OF BULK AT MOST 1048576: true; the input reads as it did. -/
def fnExactEqualRelationUptoRow : OpenClaim := { program := "ytaolbdkehlobiaa", sum := "97775cbb2f13bc1669f7d91767922d73ae7a93f124fc3fc478725d70189c3099", func := "loop.example/g02079/laws.FnExactEqualRelation", spec := "fnExactEqualRelation", unfollowed := true, recurses := true, apart := false, narrowed := true }
def FnExactEqualRelationUptoSaid : Prop := fnExactEqualRelationUptoRow.holds Try.pinned (OpenSpec.upto fnExactEqualRelationSpec)

end Rows
end Go.Proofs.Ytaolbdkehlobiaa
