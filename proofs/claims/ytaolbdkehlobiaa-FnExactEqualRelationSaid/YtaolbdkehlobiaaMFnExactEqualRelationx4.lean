/- The Go functions that the law FnExactEqualRelation reaches (part 4): each as a Lean function, and that its code comes to these answers. No condition beyond those written. -/
import Derived.Test.YtaolbdkehlobiaaMFnExactEqualRelationx0
import Derived.Test.YtaolbdkehlobiaaMFnExactEqualRelationx1
import Derived.Test.YtaolbdkehlobiaaMFnExactEqualRelationx2
import Derived.Test.YtaolbdkehlobiaaMFnExactEqualRelationx3
namespace Go.Proofs.Ytaolbdkehlobiaa.PFnExactEqualRelation
open Go.RowKit Go.Proofs.YtaolbdkehlobiaaW.PrintWords Go.Proofs.YtaolbdkehlobiaaW.PrintLast Go.Proofs.YtaolbdkehlobiaaW.PrintMore
attribute [local go_sem] max2_int min2_int max_two min_two max_three min_three max_four min_four   -- for this text's walks alone
set_option linter.unusedVariables false
set_option linter.unusedSimpArgs false

end Go.Proofs.Ytaolbdkehlobiaa.PFnExactEqualRelation
