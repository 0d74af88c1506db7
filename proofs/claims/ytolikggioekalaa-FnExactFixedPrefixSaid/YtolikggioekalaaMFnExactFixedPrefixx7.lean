/- The Go functions that the law FnExactFixedPrefix reaches (part 7): each as a Lean function, and that its code comes to these answers. No condition beyond those written. -/
import Derived.Test.YtolikggioekalaaMFnExactFixedPrefixx0
import Derived.Test.YtolikggioekalaaMFnExactFixedPrefixx1
import Derived.Test.YtolikggioekalaaMFnExactFixedPrefixx2
import Derived.Test.YtolikggioekalaaMFnExactFixedPrefixx4
import Derived.Test.YtolikggioekalaaMFnExactFixedPrefixx6
namespace Go.Proofs.Ytolikggioekalaa.PFnExactFixedPrefix
open Go.RowKit Go.Proofs.YtolikggioekalaaW.PrintWords Go.Proofs.YtolikggioekalaaW.PrintLast Go.Proofs.YtolikggioekalaaW.PrintMore
attribute [local go_sem] max2_int min2_int max_two min_two max_three min_three max_four min_four   -- for this text's walks alone
set_option linter.unusedVariables false
set_option linter.unusedSimpArgs false

end Go.Proofs.Ytolikggioekalaa.PFnExactFixedPrefix
