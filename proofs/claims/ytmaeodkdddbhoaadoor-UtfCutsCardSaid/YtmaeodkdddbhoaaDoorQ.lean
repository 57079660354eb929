-- printed by a program of the session's own; Lean checks it
import Derived.Test.YtmaeodkdddbhoaaDoorQ0
import Derived.Test.YtmaeodkdddbhoaaDoorQ1
import Derived.Test.YtmaeodkdddbhoaaDoorQ2
import Derived.Test.YtmaeodkdddbhoaaDoorQ3
import Derived.Test.YtmaeodkdddbhoaaDoorQ4
import Derived.Test.YtmaeodkdddbhoaaDoorQ5
import Derived.Test.YtmaeodkdddbhoaaDoorQ6
import Derived.Test.YtmaeodkdddbhoaaDoorQ7
import Derived.Test.YtmaeodkdddbhoaaDoorQ8
namespace Go.Proofs.YtmaeodkdddbhoaaDoor.Q
open Go.RowKit Go.Proofs.YtmaeodkdddbhoaaDoorW.PrintWords Go.Proofs.YtmaeodkdddbhoaaDoorW.PrintLast Go.Proofs.YtmaeodkdddbhoaaDoorW.PrintMore
attribute [local go_sem] max2_int min2_int max_two min_two max_three min_three max_four min_four   -- for this text's walks alone
set_option linter.unusedVariables false
set_option linter.unusedSimpArgs false

end Go.Proofs.YtmaeodkdddbhoaaDoor.Q
