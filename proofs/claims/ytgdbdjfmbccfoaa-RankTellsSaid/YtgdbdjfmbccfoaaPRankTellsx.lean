-- Written by a program of this session (the kit's print, turned: wip/px).
import Derived.Test.YtgdbdjfmbccfoaaPRankTellsx0
import Derived.Test.YtgdbdjfmbccfoaaPRankTellsx1
import Derived.Test.YtgdbdjfmbccfoaaPRankTellsx2
import Derived.Test.YtgdbdjfmbccfoaaPRankTellsx3
import Derived.Test.YtgdbdjfmbccfoaaPRankTellsx4
import Derived.Test.YtgdbdjfmbccfoaaPRankTellsx5
import Derived.Test.YtgdbdjfmbccfoaaPRankTellsx6
import Derived.Test.YtgdbdjfmbccfoaaPRankTellsx7
import Derived.Test.YtgdbdjfmbccfoaaPRankTellsx8
namespace Go.Proofs.Ytgdbdjfmbccfoaa.PRankTells
open Go.RowKit Go.Proofs.YtgdbdjfmbccfoaaW.PrintWords Go.Proofs.YtgdbdjfmbccfoaaW.PrintLast Go.Proofs.YtgdbdjfmbccfoaaW.PrintMore
attribute [local go_sem] max2_int min2_int max_two min_two max_three min_three max_four min_four   -- for this text's walks alone
set_option linter.unusedVariables false
set_option linter.unusedSimpArgs false

end Go.Proofs.Ytgdbdjfmbccfoaa.PRankTells
