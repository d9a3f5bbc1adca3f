-- Written by a program of this session (the kit's print, turned: wip/px).
import Derived.Test.YtfcidgnbocijdaaDoorPCertLooksx0
import Derived.Test.YtfcidgnbocijdaaDoorPCertLooksx1
import Derived.Test.YtfcidgnbocijdaaDoorPCertLooksx8
import Derived.Test.YtfcidgnbocijdaaDoorPCertLooksx9
import Derived.Test.YtfcidgnbocijdaaDoorPCertLooksx10
import Derived.Test.YtfcidgnbocijdaaDoorPCertLooksx11
import Derived.Test.YtfcidgnbocijdaaDoorPCertLooksx13
import Derived.Test.YtfcidgnbocijdaaDoorPCertLooksx17
import Derived.Test.YtfcidgnbocijdaaDoorPCertLooksx18
import Derived.Test.YtfcidgnbocijdaaDoorPCertLooksx19
namespace Go.Proofs.YtfcidgnbocijdaaDoor.PCertLooks
open Go.RowKit Go.Proofs.YtfcidgnbocijdaaDoorW.PrintWords Go.Proofs.YtfcidgnbocijdaaDoorW.PrintLast Go.Proofs.YtfcidgnbocijdaaDoorW.PrintMore
attribute [local go_sem] max2_int min2_int max_two min_two max_three min_three max_four min_four   -- for this text's walks alone
set_option linter.unusedVariables false
set_option linter.unusedSimpArgs false

end Go.Proofs.YtfcidgnbocijdaaDoor.PCertLooks
