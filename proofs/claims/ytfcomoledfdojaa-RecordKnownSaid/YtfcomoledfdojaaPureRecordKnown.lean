/- The chapter's examples: reckoned. -/
import Derived.Test.YtfcomoledfdojaaPRecordKnownx
namespace Go.Proofs.Ytfcomoledfdojaa.Pure
open Go.RowKit Go.Proofs.Ytfcomoledfdojaa.PRecordKnown
theorem RecordKnown : diapasonlaw29_RecordKnown.Pure := ⟨100, by decide +kernel⟩
end Go.Proofs.Ytfcomoledfdojaa.Pure
