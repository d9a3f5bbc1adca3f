-- Written by a program of this session (the kit's print, turned: wip/px).
import Derived.Test.YtgdbdjfmbccfoaaPRankKnownx0
import Derived.Test.YtgdbdjfmbccfoaaPRankKnownx1
import Derived.Test.YtgdbdjfmbccfoaaPRankKnownx2
import Derived.Test.YtgdbdjfmbccfoaaPRankKnownx3
import Derived.Test.YtgdbdjfmbccfoaaPRankKnownx4
namespace Go.Proofs.Ytgdbdjfmbccfoaa.PRankKnown
open Go.RowKit Go.Proofs.YtgdbdjfmbccfoaaW.PrintWords Go.Proofs.YtgdbdjfmbccfoaaW.PrintLast Go.Proofs.YtgdbdjfmbccfoaaW.PrintMore
attribute [local go_sem] max2_int min2_int max_two min_two max_three min_three max_four min_four   -- for this text's walks alone
set_option linter.unusedVariables false
set_option linter.unusedSimpArgs false

end Go.Proofs.Ytgdbdjfmbccfoaa.PRankKnown
