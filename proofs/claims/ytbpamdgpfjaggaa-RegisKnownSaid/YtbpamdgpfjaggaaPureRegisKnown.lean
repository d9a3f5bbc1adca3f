/- The chapter's examples: reckoned. -/
import Derived.Test.YtbpamdgpfjaggaaPRegisKnownx
namespace Go.Proofs.Ytbpamdgpfjaggaa.Pure
open Go.RowKit Go.Proofs.Ytbpamdgpfjaggaa.PRegisKnown
theorem RegisKnown : diapasonlaw26_RegisKnown.Pure := ⟨100, by decide +kernel⟩
end Go.Proofs.Ytbpamdgpfjaggaa.Pure
