/- The Go functions that the law FnExactLyndonWords reaches (part 5): each as a Lean function, and that its code comes to these answers. No condition beyond those written. -/
import Derived.Test.YtaolbdkehlobiaaMFnExactLyndonWordsx0
import Derived.Test.YtaolbdkehlobiaaMFnExactLyndonWordsx2
import Derived.Test.YtaolbdkehlobiaaMFnExactLyndonWordsx3
import Derived.Test.YtaolbdkehlobiaaMFnExactLyndonWordsx4
namespace Go.Proofs.Ytaolbdkehlobiaa.PFnExactLyndonWords
open Go.RowKit Go.Proofs.YtaolbdkehlobiaaW.PrintWords Go.Proofs.YtaolbdkehlobiaaW.PrintLast Go.Proofs.YtaolbdkehlobiaaW.PrintMore
attribute [local go_sem] max2_int min2_int max_two min_two max_three min_three max_four min_four   -- for this text's walks alone
set_option linter.unusedVariables false
set_option linter.unusedSimpArgs false

end Go.Proofs.Ytaolbdkehlobiaa.PFnExactLyndonWords
