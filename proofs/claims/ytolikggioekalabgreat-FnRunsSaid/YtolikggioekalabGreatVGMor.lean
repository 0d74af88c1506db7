/- Words over letters, morphisms, and a morphism's answer. No condition. -/
import Derived.Test.YtolikggioekalabGreatVGRel
namespace Go.Proofs.YtolikggioekalabGreat.G
open Go.RowKit
set_option linter.unusedVariables false
def okWord (w : List Int) (n : Nat) : Bool := decide (RowIn n w ∧ (1 ≤ n ∧ n ≤ 16) ∧ w.length ≤ 400)
def okMor (l : List (List Int)) : Bool := decide ((1 ≤ l.length ∧ l.length ≤ 16) ∧ ∀ r ∈ l, r.length ≤ 8 ∧ RowIn l.length r)
def appM (l : List (List Int)) (w : List Int) : List Int := w.flatMap fun v => l.getD v.toNat []
theorem appM_take {l : List (List Int)} (w : List Int) (n : Nat) (h : n < w.length) : appM l (w.take (n + 1)) = appM l (w.take n) ++ l.getD (w.getD n 0).toNat [] := by
  unfold appM
  rw [take_succ_getD w n 0 h, List.flatMap_append]
  simp
end Go.Proofs.YtolikggioekalabGreat.G
