-- printed by a program of the session's own; Lean checks it
import Derived.Test.YtfoikdjffemhbaaDoorQ0
import Derived.Test.YtfoikdjffemhbaaDoorQ1
import Derived.Test.YtfoikdjffemhbaaDoorQ2
import Derived.Test.YtfoikdjffemhbaaDoorQ3
import Derived.Test.YtfoikdjffemhbaaDoorQ4
import Derived.Test.YtfoikdjffemhbaaDoorQ5
import Derived.Test.YtfoikdjffemhbaaDoorQ6
import Derived.Test.YtfoikdjffemhbaaDoorQ7
namespace Go.Proofs.YtfoikdjffemhbaaDoor.Q
open Go.RowKit Go.Proofs.YtfoikdjffemhbaaDoorW.PrintWords Go.Proofs.YtfoikdjffemhbaaDoorW.PrintLast Go.Proofs.YtfoikdjffemhbaaDoorW.PrintMore
attribute [local go_sem] max2_int min2_int max_two min_two max_three min_three max_four min_four   -- for this text's walks alone
set_option linter.unusedVariables false
set_option linter.unusedSimpArgs false

end Go.Proofs.YtfoikdjffemhbaaDoor.Q
