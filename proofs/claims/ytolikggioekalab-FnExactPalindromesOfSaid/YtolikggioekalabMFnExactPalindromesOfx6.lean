/- The Go functions that the law FnExactPalindromesOf reaches (part 6): each as a Lean function, and that its code comes to these answers. No condition beyond those written. -/
import Derived.Test.YtolikggioekalabMFnExactPalindromesOfx0
import Derived.Test.YtolikggioekalabMFnExactPalindromesOfx1
import Derived.Test.YtolikggioekalabMFnExactPalindromesOfx3
import Derived.Test.YtolikggioekalabMFnExactPalindromesOfx5
namespace Go.Proofs.Ytolikggioekalab.PFnExactPalindromesOf
open Go.RowKit Go.Proofs.YtolikggioekalabW.PrintWords Go.Proofs.YtolikggioekalabW.PrintLast Go.Proofs.YtolikggioekalabW.PrintMore
attribute [local go_sem] max2_int min2_int max_two min_two max_three min_three max_four min_four   -- for this text's walks alone
set_option linter.unusedVariables false
set_option linter.unusedSimpArgs false

end Go.Proofs.Ytolikggioekalab.PFnExactPalindromesOf
