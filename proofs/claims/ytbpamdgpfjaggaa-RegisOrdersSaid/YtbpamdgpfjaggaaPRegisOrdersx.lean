-- Written by a program of this session (the kit's print, turned: wip/px).
import Derived.Test.YtbpamdgpfjaggaaPRegisOrdersx0
import Derived.Test.YtbpamdgpfjaggaaPRegisOrdersx1
import Derived.Test.YtbpamdgpfjaggaaPRegisOrdersx2
import Derived.Test.YtbpamdgpfjaggaaPRegisOrdersx3
import Derived.Test.YtbpamdgpfjaggaaPRegisOrdersx4
import Derived.Test.YtbpamdgpfjaggaaPRegisOrdersx5
import Derived.Test.YtbpamdgpfjaggaaPRegisOrdersx6
import Derived.Test.YtbpamdgpfjaggaaPRegisOrdersx7
namespace Go.Proofs.Ytbpamdgpfjaggaa.PRegisOrders
open Go.RowKit Go.Proofs.YtbpamdgpfjaggaaW.PrintWords Go.Proofs.YtbpamdgpfjaggaaW.PrintLast Go.Proofs.YtbpamdgpfjaggaaW.PrintMore
attribute [local go_sem] max2_int min2_int max_two min_two max_three min_three max_four min_four   -- for this text's walks alone
set_option linter.unusedVariables false
set_option linter.unusedSimpArgs false

end Go.Proofs.Ytbpamdgpfjaggaa.PRegisOrders
