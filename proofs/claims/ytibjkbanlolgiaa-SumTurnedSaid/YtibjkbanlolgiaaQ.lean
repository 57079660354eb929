-- printed by a program of the session's own; Lean checks it
import Derived.Test.YtibjkbanlolgiaaQ0
import Derived.Test.YtibjkbanlolgiaaQ1
import Derived.Test.YtibjkbanlolgiaaQ2
import Derived.Test.YtibjkbanlolgiaaQ3
import Derived.Test.YtibjkbanlolgiaaQ4
import Derived.Test.YtibjkbanlolgiaaQ5
import Derived.Test.YtibjkbanlolgiaaQ6
namespace Go.Proofs.Ytibjkbanlolgiaa.Q
open Go.RowKit Go.Proofs.YtibjkbanlolgiaaW.PrintWords Go.Proofs.YtibjkbanlolgiaaW.PrintLast Go.Proofs.YtibjkbanlolgiaaW.PrintMore
attribute [local go_sem] max2_int min2_int max_two min_two max_three min_three max_four min_four   -- for this text's walks alone
set_option linter.unusedVariables false
set_option linter.unusedSimpArgs false

end Go.Proofs.Ytibjkbanlolgiaa.Q
