/- Words in the order of a dictionary. No condition. -/
import Derived.Test.YtolikggioekalabGreatVG0
namespace Go.Proofs.YtolikggioekalabGreat.G
set_option linter.unusedVariables false
def cmpW : List Int → List Int → Int
  | [], [] => 0
  | [], _ :: _ => -1
  | _ :: _, [] => 1
  | a :: u, b :: v => if a < b then -1 else if b < a then 1 else cmpW u v
theorem cmpW_cons (a b : Int) (u v : List Int) : cmpW (a :: u) (b :: v) = if a < b then -1 else if b < a then 1 else cmpW u v := by rw [cmpW]
theorem cmpW_nil_right (u : List Int) : cmpW u [] = if u = [] then 0 else 1 := by cases u <;> simp [cmpW]
theorem cmpW_nil_left (u : List Int) : cmpW [] u = if u = [] then 0 else -1 := by cases u <;> simp [cmpW]
end Go.Proofs.YtolikggioekalabGreat.G
