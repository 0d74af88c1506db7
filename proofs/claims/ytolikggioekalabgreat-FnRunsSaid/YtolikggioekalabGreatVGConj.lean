/- A word's different conjugates, in order. No condition. -/
import Derived.Test.YtolikggioekalabGreatVGLyn
namespace Go.Proofs.YtolikggioekalabGreat.G
open Go.RowKit
set_option linter.unusedVariables false
def rotsTo (w : List Int) (m : Nat) : List (List Int) := (List.range m).map (rot w)
theorem rotsTo_succ (w : List Int) (m : Nat) : rotsTo w (m + 1) = rotsTo w m ++ [rot w m] := by simp [rotsTo, List.range_succ]
theorem rotsTo_length (w : List Int) (m : Nat) : (rotsTo w m).length = m := by simp [rotsTo]
def conj (w : List Int) : List (List Int) := if 64 < w.length then [] else canon (rotsTo w w.length)
theorem conj_rows (w : List Int) : (conj w).length ≤ w.length ∧ ∀ x ∈ conj w, x.length = w.length := by
  unfold conj
  split
  · simp
  · refine ⟨?_, fun x hx => ?_⟩
    · have := canon_length (rotsTo w w.length)
      rwa [rotsTo_length] at this
    · rw [canon_mem] at hx
      obtain ⟨k, _, rfl⟩ := List.mem_map.1 hx
      exact rot_length w k
end Go.Proofs.YtolikggioekalabGreat.G
