/- Words that are short enough for their factors to be told; what is told of their factors. No condition. -/
import Derived.Test.YtolikggioekalabVGFacs
import Derived.Test.YtolikggioekalabVGMor
namespace Go.Proofs.Ytolikggioekalab.G
open Go.RowKit
set_option linter.unusedVariables false

def shortW (w : List Int) : Bool := okWord w 16 && decide (w.length ≤ 128)
def factOk (w : List Int) (n : Int) : Bool := shortW w && (decide (0 ≤ n) && decide (n ≤ 40))
def factR (w : List Int) (n : Int) : List (List Int) × Bool := if factOk w n = true then (facs w n.toNat, true) else ([], false)
def countR (w : List Int) (n : Int) : Int := if factOk w n = true then ((facs w n.toNat).length : Int) else -1
def compTo (w : List Int) (m : Nat) : List Int := (List.range m).map fun k => ((facs w k).length : Int)
def compR (w : List Int) (n : Int) : List Int := if factOk w n = true then compTo w (n.toNat + 1) else []
theorem compTo_succ (w : List Int) (m : Nat) : compTo w (m + 1) = compTo w m ++ [((facs w m).length : Int)] := by simp [compTo, List.range_succ]
theorem compTo_length (w : List Int) (m : Nat) : (compTo w m).length = m := by simp [compTo]
theorem factOk_iff {w : List Int} {n : Int} : factOk w n = true ↔ shortW w = true ∧ 0 ≤ n ∧ n ≤ 40 := by
  unfold factOk
  simp only [Bool.and_eq_true, decide_eq_true_eq]
theorem shortW_le {w : List Int} (h : shortW w = true) : w.length ≤ 128 := by
  unfold shortW at h
  simp only [Bool.and_eq_true, decide_eq_true_eq] at h
  exact h.2
theorem compR_length (w : List Int) (n : Int) : (compR w n).length ≤ 41 := by
  unfold compR
  split
  · rename_i h
    have := factOk_iff.1 h
    rw [compTo_length]; omega
  · simp

end Go.Proofs.Ytolikggioekalab.G
