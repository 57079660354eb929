-- printed by a program of the session's own; Lean checks it
import Derived.Test.YtljlkpfiebcoeaaDoorQ0
import Derived.Test.YtljlkpfiebcoeaaDoorQ1
import Derived.Test.YtljlkpfiebcoeaaDoorQ2
import Derived.Test.YtljlkpfiebcoeaaDoorQ3
import Derived.Test.YtljlkpfiebcoeaaDoorQ4
import Derived.Test.YtljlkpfiebcoeaaDoorQ5
import Derived.Test.YtljlkpfiebcoeaaDoorQ6
namespace Go.Proofs.YtljlkpfiebcoeaaDoor.Q
open Go.RowKit Go.Proofs.YtljlkpfiebcoeaaDoorW.PrintWords Go.Proofs.YtljlkpfiebcoeaaDoorW.PrintLast Go.Proofs.YtljlkpfiebcoeaaDoorW.PrintMore
attribute [local go_sem] max2_int min2_int max_two min_two max_three min_three max_four min_four   -- for this text's walks alone
set_option linter.unusedVariables false
set_option linter.unusedSimpArgs false

end Go.Proofs.YtljlkpfiebcoeaaDoor.Q
