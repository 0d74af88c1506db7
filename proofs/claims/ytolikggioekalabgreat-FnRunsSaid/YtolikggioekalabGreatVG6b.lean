/- The periods of a word and its least one. No condition. -/
import Derived.Test.YtolikggioekalabGreatVG6
namespace Go.Proofs.YtolikggioekalabGreat.G
set_option linter.unusedVariables false
noncomputable def pers (w : List Int) : List Int := ((bc w w.length w.length).map fun x => (w.length : Int) - x).reverse
noncomputable def lper (w : List Int) : Int := if w.length = 0 then 0 else (w.length : Int) - ((lb w w.length : Nat) : Int)
theorem lper_bounds (w : List Int) (h : 1 ≤ w.length) : 1 ≤ lper w ∧ lper w ≤ w.length := by
  have := lb_lt w w.length h (by omega)
  unfold lper
  rw [if_neg (by omega)]
  omega
end Go.Proofs.YtolikggioekalabGreat.G
