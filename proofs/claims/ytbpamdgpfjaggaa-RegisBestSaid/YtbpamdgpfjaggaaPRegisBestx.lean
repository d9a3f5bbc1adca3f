-- Written by a program of this session (the kit's print, turned: wip/px).
import Derived.Test.YtbpamdgpfjaggaaPRegisBestx0
import Derived.Test.YtbpamdgpfjaggaaPRegisBestx1
import Derived.Test.YtbpamdgpfjaggaaPRegisBestx2
import Derived.Test.YtbpamdgpfjaggaaPRegisBestx3
import Derived.Test.YtbpamdgpfjaggaaPRegisBestx4
import Derived.Test.YtbpamdgpfjaggaaPRegisBestx5
import Derived.Test.YtbpamdgpfjaggaaPRegisBestx6
import Derived.Test.YtbpamdgpfjaggaaPRegisBestx7
import Derived.Test.YtbpamdgpfjaggaaPRegisBestx8
import Derived.Test.YtbpamdgpfjaggaaPRegisBestx9
import Derived.Test.YtbpamdgpfjaggaaPRegisBestx10
import Derived.Test.YtbpamdgpfjaggaaPRegisBestx11
namespace Go.Proofs.Ytbpamdgpfjaggaa.PRegisBest
open Go.RowKit Go.Proofs.YtbpamdgpfjaggaaW.PrintWords Go.Proofs.YtbpamdgpfjaggaaW.PrintLast Go.Proofs.YtbpamdgpfjaggaaW.PrintMore
attribute [local go_sem] max2_int min2_int max_two min_two max_three min_three max_four min_four   -- for this text's walks alone
set_option linter.unusedVariables false
set_option linter.unusedSimpArgs false

end Go.Proofs.Ytbpamdgpfjaggaa.PRegisBest
