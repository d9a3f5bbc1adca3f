-- Written by a program of this session (the kit's print, turned: wip/px).
import Derived.Test.YtfcomoledfdojaaPRecordTellsx0
import Derived.Test.YtfcomoledfdojaaPRecordTellsx1
import Derived.Test.YtfcomoledfdojaaPRecordTellsx2
import Derived.Test.YtfcomoledfdojaaPRecordTellsx3
import Derived.Test.YtfcomoledfdojaaPRecordTellsx4
import Derived.Test.YtfcomoledfdojaaPRecordTellsx5
import Derived.Test.YtfcomoledfdojaaPRecordTellsx6
import Derived.Test.YtfcomoledfdojaaPRecordTellsx7
import Derived.Test.YtfcomoledfdojaaPRecordTellsx8
import Derived.Test.YtfcomoledfdojaaPRecordTellsx9
namespace Go.Proofs.Ytfcomoledfdojaa.PRecordTells
open Go.RowKit Go.Proofs.YtfcomoledfdojaaW.PrintWords Go.Proofs.YtfcomoledfdojaaW.PrintLast Go.Proofs.YtfcomoledfdojaaW.PrintMore
attribute [local go_sem] max2_int min2_int max_two min_two max_three min_three max_four min_four   -- for this text's walks alone
set_option linter.unusedVariables false
set_option linter.unusedSimpArgs false

end Go.Proofs.Ytfcomoledfdojaa.PRecordTells
