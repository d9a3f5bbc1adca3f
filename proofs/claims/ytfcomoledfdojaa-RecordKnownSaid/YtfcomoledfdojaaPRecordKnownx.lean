-- Written by a program of this session (the kit's print, turned: wip/px).
import Derived.Test.YtfcomoledfdojaaPRecordKnownx0
import Derived.Test.YtfcomoledfdojaaPRecordKnownx1
import Derived.Test.YtfcomoledfdojaaPRecordKnownx2
import Derived.Test.YtfcomoledfdojaaPRecordKnownx3
import Derived.Test.YtfcomoledfdojaaPRecordKnownx4
namespace Go.Proofs.Ytfcomoledfdojaa.PRecordKnown
open Go.RowKit Go.Proofs.YtfcomoledfdojaaW.PrintWords Go.Proofs.YtfcomoledfdojaaW.PrintLast Go.Proofs.YtfcomoledfdojaaW.PrintMore
attribute [local go_sem] max2_int min2_int max_two min_two max_three min_three max_four min_four   -- for this text's walks alone
set_option linter.unusedVariables false
set_option linter.unusedSimpArgs false

end Go.Proofs.Ytfcomoledfdojaa.PRecordKnown
