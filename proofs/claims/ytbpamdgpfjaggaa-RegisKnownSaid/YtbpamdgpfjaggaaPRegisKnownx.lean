-- Written by a program of this session (the kit's print, turned: wip/px).
import Derived.Test.YtbpamdgpfjaggaaPRegisKnownx0
import Derived.Test.YtbpamdgpfjaggaaPRegisKnownx1
import Derived.Test.YtbpamdgpfjaggaaPRegisKnownx2
import Derived.Test.YtbpamdgpfjaggaaPRegisKnownx3
import Derived.Test.YtbpamdgpfjaggaaPRegisKnownx4
import Derived.Test.YtbpamdgpfjaggaaPRegisKnownx5
import Derived.Test.YtbpamdgpfjaggaaPRegisKnownx6
import Derived.Test.YtbpamdgpfjaggaaPRegisKnownx7
namespace Go.Proofs.Ytbpamdgpfjaggaa.PRegisKnown
open Go.RowKit Go.Proofs.YtbpamdgpfjaggaaW.PrintWords Go.Proofs.YtbpamdgpfjaggaaW.PrintLast Go.Proofs.YtbpamdgpfjaggaaW.PrintMore
attribute [local go_sem] max2_int min2_int max_two min_two max_three min_three max_four min_four   -- for this text's walks alone
set_option linter.unusedVariables false
set_option linter.unusedSimpArgs false

end Go.Proofs.Ytbpamdgpfjaggaa.PRegisKnown
