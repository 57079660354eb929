-- printed by a program of the session's own; Lean checks it
import Derived.Test.YtekijemacjpceaaDoorQ0
import Derived.Test.YtekijemacjpceaaDoorQ1
import Derived.Test.YtekijemacjpceaaDoorQ2
import Derived.Test.YtekijemacjpceaaDoorQ3
import Derived.Test.YtekijemacjpceaaDoorQ4
import Derived.Test.YtekijemacjpceaaDoorQ5
import Derived.Test.YtekijemacjpceaaDoorQ6
import Derived.Test.YtekijemacjpceaaDoorQ7
import Derived.Test.YtekijemacjpceaaDoorQ8
import Derived.Test.YtekijemacjpceaaDoorQ9
import Derived.Test.YtekijemacjpceaaDoorQ10
import Derived.Test.YtekijemacjpceaaDoorQ11
import Derived.Test.YtekijemacjpceaaDoorQ12
import Derived.Test.YtekijemacjpceaaDoorQ13
import Derived.Test.YtekijemacjpceaaDoorQ14
import Derived.Test.YtekijemacjpceaaDoorQ15
import Derived.Test.YtekijemacjpceaaDoorQ16
namespace Go.Proofs.YtekijemacjpceaaDoor.Q
open Go.RowKit Go.Proofs.YtekijemacjpceaaDoorW.PrintWords Go.Proofs.YtekijemacjpceaaDoorW.PrintLast Go.Proofs.YtekijemacjpceaaDoorW.PrintMore
attribute [local go_sem] max2_int min2_int max_two min_two max_three min_three max_four min_four   -- for this text's walks alone
set_option linter.unusedVariables false
set_option linter.unusedSimpArgs false

end Go.Proofs.YtekijemacjpceaaDoor.Q
