/- The Go functions that the law FnExactMorphismOf reaches (part 7): each as a Lean function, and that its code comes to these answers. No condition beyond those written. -/
import Derived.Test.YtolikggioekalaaMFnExactMorphismOfx0
import Derived.Test.YtolikggioekalaaMFnExactMorphismOfx1
import Derived.Test.YtolikggioekalaaMFnExactMorphismOfx3
import Derived.Test.YtolikggioekalaaMFnExactMorphismOfx5
import Derived.Test.YtolikggioekalaaMFnExactMorphismOfx6
namespace Go.Proofs.Ytolikggioekalaa.PFnExactMorphismOf
open Go.RowKit Go.Proofs.YtolikggioekalaaW.PrintWords Go.Proofs.YtolikggioekalaaW.PrintLast Go.Proofs.YtolikggioekalaaW.PrintMore
attribute [local go_sem] max2_int min2_int max_two min_two max_three min_three max_four min_four   -- for this text's walks alone
set_option linter.unusedVariables false
set_option linter.unusedSimpArgs false

end Go.Proofs.Ytolikggioekalaa.PFnExactMorphismOf
