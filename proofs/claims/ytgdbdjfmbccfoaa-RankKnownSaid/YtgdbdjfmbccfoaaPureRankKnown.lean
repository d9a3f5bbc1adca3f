/- The chapter's examples: reckoned. -/
import Derived.Test.YtgdbdjfmbccfoaaPRankKnownx
namespace Go.Proofs.Ytgdbdjfmbccfoaa.Pure
open Go.RowKit Go.Proofs.Ytgdbdjfmbccfoaa.PRankKnown
theorem RankKnown : diapasonlaw20_RankKnown.Pure := ⟨100, by decide +kernel⟩
end Go.Proofs.Ytgdbdjfmbccfoaa.Pure
