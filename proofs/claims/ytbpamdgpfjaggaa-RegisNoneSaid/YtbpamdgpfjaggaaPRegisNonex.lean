-- Written by a program of this session (the kit's print, turned: wip/px).
import Derived.Test.YtbpamdgpfjaggaaPRegisNonex0
import Derived.Test.YtbpamdgpfjaggaaPRegisNonex1
import Derived.Test.YtbpamdgpfjaggaaPRegisNonex2
import Derived.Test.YtbpamdgpfjaggaaPRegisNonex3
import Derived.Test.YtbpamdgpfjaggaaPRegisNonex4
import Derived.Test.YtbpamdgpfjaggaaPRegisNonex5
import Derived.Test.YtbpamdgpfjaggaaPRegisNonex6
import Derived.Test.YtbpamdgpfjaggaaPRegisNonex7
import Derived.Test.YtbpamdgpfjaggaaPRegisNonex8
namespace Go.Proofs.Ytbpamdgpfjaggaa.PRegisNone
open Go.RowKit Go.Proofs.YtbpamdgpfjaggaaW.PrintWords Go.Proofs.YtbpamdgpfjaggaaW.PrintLast Go.Proofs.YtbpamdgpfjaggaaW.PrintMore
attribute [local go_sem] max2_int min2_int max_two min_two max_three min_three max_four min_four   -- for this text's walks alone
set_option linter.unusedVariables false
set_option linter.unusedSimpArgs false

end Go.Proofs.Ytbpamdgpfjaggaa.PRegisNone
