/- The shortest word that makes up another one. No condition. -/
import Derived.Test.YtolikggioekalabVG6b
namespace Go.Proofs.Ytolikggioekalab.G
set_option linter.unusedVariables false

noncomputable def rootW (w : List Int) : List Int := if w.length = 0 then w else if (w.length : Int) % lper w = 0 then w.take (lper w).toNat else w

theorem rootW_empty (w : List Int) (h : w.length = 0) : rootW w = w := by rw [rootW, if_pos h]

theorem rootW_length (w : List Int) : (rootW w).length ≤ w.length := by
  unfold rootW
  split
  · omega
  · split
    · simp; omega
    · omega

end Go.Proofs.Ytolikggioekalab.G
