-- printed by a program of the session's own; Lean checks it
import Derived.Test.YtopaheopdpkjbaaDoorQ0
import Derived.Test.YtopaheopdpkjbaaDoorQ1
import Derived.Test.YtopaheopdpkjbaaDoorQ2
import Derived.Test.YtopaheopdpkjbaaDoorQ3
import Derived.Test.YtopaheopdpkjbaaDoorQ4
import Derived.Test.YtopaheopdpkjbaaDoorQ5
import Derived.Test.YtopaheopdpkjbaaDoorQ6
import Derived.Test.YtopaheopdpkjbaaDoorQ7
import Derived.Test.YtopaheopdpkjbaaDoorQ8
namespace Go.Proofs.YtopaheopdpkjbaaDoor.Q
open Go.RowKit Go.Proofs.YtopaheopdpkjbaaDoorW.PrintWords Go.Proofs.YtopaheopdpkjbaaDoorW.PrintLast Go.Proofs.YtopaheopdpkjbaaDoorW.PrintMore
attribute [local go_sem] max2_int min2_int max_two min_two max_three min_three max_four min_four   -- for this text's walks alone
set_option linter.unusedVariables false
set_option linter.unusedSimpArgs false

end Go.Proofs.YtopaheopdpkjbaaDoor.Q
