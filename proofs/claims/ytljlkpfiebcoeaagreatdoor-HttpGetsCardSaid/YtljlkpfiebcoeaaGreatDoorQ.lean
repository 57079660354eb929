-- printed by a program of the session's own; Lean checks it
import Derived.Test.YtljlkpfiebcoeaaGreatDoorQ0
import Derived.Test.YtljlkpfiebcoeaaGreatDoorQ3
import Derived.Test.YtljlkpfiebcoeaaGreatDoorQ4
import Derived.Test.YtljlkpfiebcoeaaGreatDoorQ5
import Derived.Test.YtljlkpfiebcoeaaGreatDoorQ6
import Derived.Test.YtljlkpfiebcoeaaGreatDoorQ10
import Derived.Test.YtljlkpfiebcoeaaGreatDoorQ11
import Derived.Test.YtljlkpfiebcoeaaGreatDoorQ13
namespace Go.Proofs.YtljlkpfiebcoeaaGreatDoor.Q
open Go.RowKit Go.Proofs.YtljlkpfiebcoeaaGreatDoorW.PrintWords Go.Proofs.YtljlkpfiebcoeaaGreatDoorW.PrintLast Go.Proofs.YtljlkpfiebcoeaaGreatDoorW.PrintMore
attribute [local go_sem] max2_int min2_int max_two min_two max_three min_three max_four min_four   -- for this text's walks alone
set_option linter.unusedVariables false
set_option linter.unusedSimpArgs false

end Go.Proofs.YtljlkpfiebcoeaaGreatDoor.Q
