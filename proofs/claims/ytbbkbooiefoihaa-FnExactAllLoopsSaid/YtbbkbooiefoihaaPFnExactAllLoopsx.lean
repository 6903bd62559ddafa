-- Written by this session's own program wip/myprint.py. Not trusted: Lean checks it.
import Derived.Test.YtbbkbooiefoihaaPFnExactAllLoopsx0
import Derived.Test.YtbbkbooiefoihaaPFnExactAllLoopsx1
import Derived.Test.YtbbkbooiefoihaaPFnExactAllLoopsx2
import Derived.Test.YtbbkbooiefoihaaPFnExactAllLoopsx3
import Derived.Test.YtbbkbooiefoihaaPFnExactAllLoopsx4
namespace Go.Proofs.Ytbbkbooiefoihaa.PFnExactAllLoops
open Go.RowKit Go.Proofs.YtbbkbooiefoihaaW.PrintWords Go.Proofs.YtbbkbooiefoihaaW.PrintLast Go.Proofs.YtbbkbooiefoihaaW.PrintMore
attribute [local go_sem] max2_int min2_int max_two min_two max_three min_three max_four min_four   -- for this text's walks alone
set_option linter.unusedVariables false
set_option linter.unusedSimpArgs false

end Go.Proofs.Ytbbkbooiefoihaa.PFnExactAllLoops
