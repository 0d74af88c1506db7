/- The periods of a word and its least one. No condition. -/
import Derived.Test.YtolikggioekalabVG6
namespace Go.Proofs.Ytolikggioekalab.G
set_option linter.unusedVariables false

/-- The periods: from the longest border on. -/
noncomputable def pers (w : List Int) : List Int := ((bc w w.length w.length).map fun x => (w.length : Int) - x).reverse

/-- The least period of a word (0 of the empty one). -/
noncomputable def lper (w : List Int) : Int := if w.length = 0 then 0 else (w.length : Int) - ((lb w w.length : Nat) : Int)

theorem lper_bounds (w : List Int) (h : 1 ≤ w.length) : 1 ≤ lper w ∧ lper w ≤ w.length := by
  have := lb_lt w w.length h (by omega)
  unfold lper
  rw [if_neg (by omega)]
  omega

theorem pers_length (w : List Int) : (pers w).length ≤ w.length := by
  unfold pers
  simpa using bc_length w w.length w.length

end Go.Proofs.Ytolikggioekalab.G
