/- Short ways to say what many steps of a walk say. No condition. -/
import Derived.Test.YtolikggioekalabVGDraw
namespace Go.Proofs.Ytolikggioekalab.G
/-- What a test has told, from the context. -/
theorem odt {p : Prop} [Decidable p] (h : decide p = true := by first | (with_reducible assumption) | assumption) : p := of_decide_eq_true h
end Go.Proofs.Ytolikggioekalab.G
