-- Written by a program of this claim's own (the kit's print, changed: functions proved by hand count as printed). Lean checks it.
import Derived.Test.YtbakghjgflcfaaaPPx0
import Derived.Test.YtbakghjgflcfaaaPPx1
import Derived.Test.YtbakghjgflcfaaaPPx2
namespace Go.Proofs.Ytbakghjgflcfaaa.PP
open Go.RowKit Go.Proofs.YtbakghjgflcfaaaW.PrintWords Go.Proofs.YtbakghjgflcfaaaW.PrintLast Go.Proofs.YtbakghjgflcfaaaW.PrintMore
attribute [local go_sem] max2_int min2_int max_two min_two max_three min_three max_four min_four   -- for this text's walks alone
set_option linter.unusedVariables false
set_option linter.unusedSimpArgs false

end Go.Proofs.Ytbakghjgflcfaaa.PP
