-- Written by this session's own program wip/myprint.py. Not trusted: Lean checks it.
import Derived.Test.YtalnjklklpnnhaaPFnStepsMendedx0
import Derived.Test.YtalnjklklpnnhaaPFnStepsMendedx1
import Derived.Test.YtalnjklklpnnhaaPFnStepsMendedx2
import Derived.Test.YtalnjklklpnnhaaPFnStepsMendedx3
import Derived.Test.YtalnjklklpnnhaaPFnStepsMendedx4
import Derived.Test.YtalnjklklpnnhaaPFnStepsMendedx5
import Derived.Test.YtalnjklklpnnhaaPFnStepsMendedx6
import Derived.Test.YtalnjklklpnnhaaPFnStepsMendedx7
import Derived.Test.YtalnjklklpnnhaaPFnStepsMendedx8
import Derived.Test.YtalnjklklpnnhaaPFnStepsMendedx9
import Derived.Test.YtalnjklklpnnhaaPFnStepsMendedx10
import Derived.Test.YtalnjklklpnnhaaPFnStepsMendedx11
namespace Go.Proofs.Ytalnjklklpnnhaa.PFnStepsMended
open Go.RowKit Go.Proofs.YtalnjklklpnnhaaW.PrintWords Go.Proofs.YtalnjklklpnnhaaW.PrintLast Go.Proofs.YtalnjklklpnnhaaW.PrintMore
attribute [local go_sem] max2_int min2_int max_two min_two
set_option linter.unusedVariables false
set_option linter.unusedSimpArgs false

end Go.Proofs.Ytalnjklklpnnhaa.PFnStepsMended
