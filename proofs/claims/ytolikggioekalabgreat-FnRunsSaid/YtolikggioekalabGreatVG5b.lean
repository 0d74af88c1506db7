/- When the order of words says 'equal'. No condition. -/
import Derived.Test.YtolikggioekalabGreatVG5
namespace Go.Proofs.YtolikggioekalabGreat.G
set_option linter.unusedVariables false
theorem cmpW_zero (u : List Int) : ∀ v : List Int, cmpW u v = 0 ↔ u = v := by
  induction u with
  | nil => intro v; rw [cmpW_nil_left]; split <;> simp_all [eq_comm]
  | cons a u ih =>
    intro v
    cases v with
    | nil => simp [cmpW]
    | cons b v =>
      rw [cmpW_cons]
      by_cases h1 : a < b
      · rw [if_pos h1]; simp; omega
      · rw [if_neg h1]
        by_cases h2 : b < a
        · rw [if_pos h2]; simp; omega
        · rw [if_neg h2, ih v]
          have e : a = b := by omega
          subst e
          simp
end Go.Proofs.YtolikggioekalabGreat.G
