/- The Go functions that the law FnExactRightSpecial reaches (part 7): each as a Lean function, and that its code comes to these answers. No condition beyond those written. -/
import Derived.Test.YtolikggioekalabMFnExactRightSpecialx0
import Derived.Test.YtolikggioekalabMFnExactRightSpecialx1
import Derived.Test.YtolikggioekalabMFnExactRightSpecialx4
import Derived.Test.YtolikggioekalabMFnExactRightSpecialx6
namespace Go.Proofs.Ytolikggioekalab.PFnExactRightSpecial
open Go.RowKit Go.Proofs.YtolikggioekalabW.PrintWords Go.Proofs.YtolikggioekalabW.PrintLast Go.Proofs.YtolikggioekalabW.PrintMore
attribute [local go_sem] max2_int min2_int max_two min_two max_three min_three max_four min_four   -- for this text's walks alone
set_option linter.unusedVariables false
set_option linter.unusedSimpArgs false

end Go.Proofs.Ytolikggioekalab.PFnExactRightSpecial
