/- What the two readings of a relation's shape both say. No condition. -/
import Derived.Test.YtolikggioekalabGreatVG0
namespace Go.Proofs.YtolikggioekalabGreat.G
open Go.RowKit
set_option linter.unusedVariables false
abbrev RowIn (n : Nat) (r : List Int) : Prop := ∀ v ∈ r, 0 ≤ v ∧ v < (n : Int)
end Go.Proofs.YtolikggioekalabGreat.G
