/- Where a word occurs in another one: the list of places, ascending. No condition. -/
import Derived.Test.YtolikggioekalabVG0
namespace Go.Proofs.Ytolikggioekalab.G
set_option linter.unusedVariables false

/-- The places below n at which u begins in w. -/
def occTo (w u : List Int) (n : Nat) : List Int :=
  ((List.range n).filter fun at_ => decide ((w.take (at_ + u.length)).drop at_ = u)).map fun (i : Nat) => (i : Int)

def occ (w u : List Int) : List Int := occTo w u (w.length + 1 - u.length)

theorem occTo_succ (w u : List Int) (n : Nat) : occTo w u (n + 1) = occTo w u n ++ if (w.take (n + u.length)).drop n = u then [(n : Int)] else [] := by
  unfold occTo
  rw [List.range_succ, List.filter_append, List.map_append]
  congr 1
  by_cases h : (w.take (n + u.length)).drop n = u <;> simp [h]

theorem occTo_length (w u : List Int) (n : Nat) : (occTo w u n).length ≤ n := by
  unfold occTo
  rw [List.length_map]
  exact Nat.le_trans (List.length_filter_le _ _) (by simp)

end Go.Proofs.Ytolikggioekalab.G
