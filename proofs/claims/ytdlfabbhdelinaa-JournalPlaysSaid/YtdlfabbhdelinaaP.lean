-- printed by a program of the session's own; Lean checks it
import Derived.Test.YtdlfabbhdelinaaP0
import Derived.Test.YtdlfabbhdelinaaP1
import Derived.Test.YtdlfabbhdelinaaP2
namespace Go.Proofs.Ytdlfabbhdelinaa.P
open Go.RowKit Go.Proofs.YtdlfabbhdelinaaW.PrintWords Go.Proofs.YtdlfabbhdelinaaW.PrintLast Go.Proofs.YtdlfabbhdelinaaW.PrintMore
attribute [local go_sem] max2_int min2_int max_two min_two max_three min_three max_four min_four   -- for this text's walks alone
set_option linter.unusedVariables false
set_option linter.unusedSimpArgs false

end Go.Proofs.Ytdlfabbhdelinaa.P
