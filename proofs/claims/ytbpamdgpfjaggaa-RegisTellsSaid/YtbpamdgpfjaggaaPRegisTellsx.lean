-- Written by a program of this session (the kit's print, turned: wip/px).
import Derived.Test.YtbpamdgpfjaggaaPRegisTellsx0
import Derived.Test.YtbpamdgpfjaggaaPRegisTellsx1
import Derived.Test.YtbpamdgpfjaggaaPRegisTellsx2
import Derived.Test.YtbpamdgpfjaggaaPRegisTellsx3
import Derived.Test.YtbpamdgpfjaggaaPRegisTellsx4
import Derived.Test.YtbpamdgpfjaggaaPRegisTellsx5
import Derived.Test.YtbpamdgpfjaggaaPRegisTellsx6
import Derived.Test.YtbpamdgpfjaggaaPRegisTellsx7
import Derived.Test.YtbpamdgpfjaggaaPRegisTellsx8
import Derived.Test.YtbpamdgpfjaggaaPRegisTellsx9
import Derived.Test.YtbpamdgpfjaggaaPRegisTellsx10
import Derived.Test.YtbpamdgpfjaggaaPRegisTellsx11
import Derived.Test.YtbpamdgpfjaggaaPRegisTellsx12
namespace Go.Proofs.Ytbpamdgpfjaggaa.PRegisTells
open Go.RowKit Go.Proofs.YtbpamdgpfjaggaaW.PrintWords Go.Proofs.YtbpamdgpfjaggaaW.PrintLast Go.Proofs.YtbpamdgpfjaggaaW.PrintMore
attribute [local go_sem] max2_int min2_int max_two min_two max_three min_three max_four min_four   -- for this text's walks alone
set_option linter.unusedVariables false
set_option linter.unusedSimpArgs false

end Go.Proofs.Ytbpamdgpfjaggaa.PRegisTells
