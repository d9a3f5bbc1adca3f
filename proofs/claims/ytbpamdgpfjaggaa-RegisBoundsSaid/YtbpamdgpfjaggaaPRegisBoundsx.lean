-- Written by a program of this session (the kit's print, turned: wip/px).
import Derived.Test.YtbpamdgpfjaggaaPRegisBoundsx0
import Derived.Test.YtbpamdgpfjaggaaPRegisBoundsx1
import Derived.Test.YtbpamdgpfjaggaaPRegisBoundsx2
import Derived.Test.YtbpamdgpfjaggaaPRegisBoundsx3
import Derived.Test.YtbpamdgpfjaggaaPRegisBoundsx4
import Derived.Test.YtbpamdgpfjaggaaPRegisBoundsx5
import Derived.Test.YtbpamdgpfjaggaaPRegisBoundsx6
import Derived.Test.YtbpamdgpfjaggaaPRegisBoundsx7
import Derived.Test.YtbpamdgpfjaggaaPRegisBoundsx8
namespace Go.Proofs.Ytbpamdgpfjaggaa.PRegisBounds
open Go.RowKit Go.Proofs.YtbpamdgpfjaggaaW.PrintWords Go.Proofs.YtbpamdgpfjaggaaW.PrintLast Go.Proofs.YtbpamdgpfjaggaaW.PrintMore
attribute [local go_sem] max2_int min2_int max_two min_two max_three min_three max_four min_four   -- for this text's walks alone
set_option linter.unusedVariables false
set_option linter.unusedSimpArgs false

end Go.Proofs.Ytbpamdgpfjaggaa.PRegisBounds
